import Derived.Test.YtenoommpckddlaaA1
namespace Go.Proofs.Ytenoommpckddlaa
open Go Go.RowKit
theorem specIn_fn (x a b : Int) {w : World} :
    Fn Try.prog 33 #[.int .i64 (x), .int .i64 (a), .int .i64 (b)] w (RetV w (.bool (decide (a ≤ x ∧ x ≤ b)))) := by
  refine fn_of_wp Try.func33 rfl (by kernel_rfl) (Nat.le_of_ble_eq_true rfl) ?_
  have hB0 := Below.refl w.heap.size w
  have hz0 := hB0.size
  refine w_seq fun K1 hK1 => ?_
  refine w_region ?_
  refine wl_val (g_assign (v := .bool (false)) rfl) rfl ?_
  refine wl_nil ?_
  refine hK1 _ _ ?_
  refine w_seq fun K2 hK2 => ?_
  refine w_region ?_
  refine wl_val (g_move (v := .int .i64 (x)) rfl) rfl ?_
  refine wl_val (g_move (v := .int .i64 (a)) rfl) rfl ?_
  refine wl_val (g_geq (a := x) (b := a) rfl rfl) rfl ?_
  refine wl_val (g_move (v := .bool (decide (x ≥ a))) rfl) rfl ?_
  refine wl_guard (c := (decide (x ≥ a)) = true) (val := .int .i64 (x)) (b := ((decide (x ≥ a)) == true)) (gv_some rfl rfl rfl) beq_iff_eq (fun hg3 => ?_) ?_
  · have hg3p := of_decide_eq_true hg3
    exact g_move (v := .int .i64 (x)) rfl
  refine wl_guard (c := (decide (x ≥ a)) = true) (val := .int .i64 (b)) (b := ((decide (x ≥ a)) == true)) (gv_some rfl rfl rfl) beq_iff_eq (fun hg4 => ?_) ?_
  · have hg4p := of_decide_eq_true hg4
    exact g_move (v := .int .i64 (b)) rfl
  refine wl_guard (c := (decide (x ≥ a)) = true) (val := .bool (decide (x ≤ b))) (b := ((decide (x ≥ a)) == true)) (gv_some rfl rfl rfl) beq_iff_eq (fun hg5 => ?_) ?_
  · have hg5p := of_decide_eq_true hg5
    exact g_leq (a := x) (b := b) (if_pos hg5) (if_pos hg5)
  refine wl_val (g_pick (b := (decide (x ≥ a))) (v := .bool (decide (x ≥ a) && decide (x ≤ b))) rfl (fun h => by simp only [ev]; first | (show (if _ then _ else _ : Value) = _; rw [if_pos h, h]; rfl)) (fun h => by rw [h]; rfl)) rfl ?_
  refine wl_val (g_assign (v := .bool ((decide (x ≥ a) && decide (x ≤ b)))) rfl) rfl ?_
  refine wl_nil ?_
  refine hK2 _ _ ?_
  refine w_ret ?_
  exact ret1 rfl (by decide) ⟨congrArg Value.bool (in_eq x a b), toExt hB0⟩
theorem within_fn (x a b : Int) {w : World} :
    Fn Try.prog 35 #[.int .i64 (x), .int .i64 (a), .int .i64 (b)] w (RetV w (.bool (decide (a ≤ x ∧ x ≤ b)))) := by
  refine fn_of_wp Try.func35 rfl (by kernel_rfl) (Nat.le_of_ble_eq_true rfl) ?_
  have hB0 := Below.refl w.heap.size w
  have hz0 := hB0.size
  refine w_seq fun K1 hK1 => ?_
  refine w_region ?_
  refine wl_val (g_assign (v := .bool (false)) rfl) rfl ?_
  refine wl_nil ?_
  refine hK1 _ _ ?_
  refine w_seq fun K2 hK2 => ?_
  refine w_region ?_
  refine wl_val (g_move (v := .int .i64 (x)) rfl) rfl ?_
  refine wl_val (g_move (v := .int .i64 (a)) rfl) rfl ?_
  refine wl_val (g_geq (a := x) (b := a) rfl rfl) rfl ?_
  refine wl_val (g_move (v := .bool (decide (x ≥ a))) rfl) rfl ?_
  refine wl_guard (c := (decide (x ≥ a)) = true) (val := .int .i64 (x)) (b := ((decide (x ≥ a)) == true)) (gv_some rfl rfl rfl) beq_iff_eq (fun hg3 => ?_) ?_
  · have hg3p := of_decide_eq_true hg3
    exact g_move (v := .int .i64 (x)) rfl
  refine wl_guard (c := (decide (x ≥ a)) = true) (val := .int .i64 (b)) (b := ((decide (x ≥ a)) == true)) (gv_some rfl rfl rfl) beq_iff_eq (fun hg4 => ?_) ?_
  · have hg4p := of_decide_eq_true hg4
    exact g_move (v := .int .i64 (b)) rfl
  refine wl_guard (c := (decide (x ≥ a)) = true) (val := .bool (decide (x ≤ b))) (b := ((decide (x ≥ a)) == true)) (gv_some rfl rfl rfl) beq_iff_eq (fun hg5 => ?_) ?_
  · have hg5p := of_decide_eq_true hg5
    exact g_leq (a := x) (b := b) (if_pos hg5) (if_pos hg5)
  refine wl_val (g_pick (b := (decide (x ≥ a))) (v := .bool (decide (x ≥ a) && decide (x ≤ b))) rfl (fun h => by simp only [ev]; first | (show (if _ then _ else _ : Value) = _; rw [if_pos h, h]; rfl)) (fun h => by rw [h]; rfl)) rfl ?_
  refine wl_val (g_assign (v := .bool ((decide (x ≥ a) && decide (x ≤ b)))) rfl) rfl ?_
  refine wl_nil ?_
  refine hK2 _ _ ?_
  refine w_ret ?_
  exact ret1 rfl (by decide) ⟨congrArg Value.bool (in_eq x a b), toExt hB0⟩
theorem szStayS_fn {a : Option Addr} {c : Nat} (n : Nat) (left : Int) {w : World} (hn : n ≤ 9223372036854775807) (h0 : 0 ≤ left) (h1 : left ≤ 1048576) :
    Fn Try.prog 14 #[.slice a (n) (c), .int .i64 (left)] w (RetV w (.int .i64 (szR left n))) := by
  refine fn_of_wp Try.func14 rfl (by kernel_rfl) (Nat.le_of_ble_eq_true rfl) ?_
  have hB0 := Below.refl w.heap.size w
  have hz0 := hB0.size
  refine w_seq fun K1 hK1 => ?_
  refine w_region ?_
  refine wl_val (g_assign (v := .int .i64 (0)) rfl) rfl ?_
  refine wl_nil ?_
  refine hK1 _ _ ?_
  refine w_seq fun K2 hK2 => ?_
  refine w_region ?_
  refine wl_val (g_move (v := .int .i64 (left)) rfl) rfl ?_
  refine wl_val (g_move (v := .slice a (n) (c)) rfl) rfl ?_
  refine wl_val (g_len' (a := a) (l := n) (c := c) SL27 rfl) rfl ?_
  refine wl_val (g_sub (a := left) (b := ((n : Nat) : Int)) rfl rfl ⟨by omega, by omega⟩) rfl ?_
  refine wl_val (g_assign (v := .int .i64 ((left - ((n : Nat) : Int)))) rfl) rfl ?_
  refine wl_nil ?_
  refine hK2 _ _ ?_
  refine w_seq fun K3 hK3 => ?_
  refine w_seq fun K4 hK4 => ?_
  refine w_region ?_
  refine wl_val (g_move (v := .int .i64 ((left - ((n : Nat) : Int)))) rfl) rfl ?_
  refine wl_val (g_lss (a := (left - ((n : Nat) : Int))) (b := 0) rfl rfl) rfl ?_
  refine wl_nil ?_
  refine hK4 _ _ ?_
  refine w_cond_d (p := (left - ((n : Nat) : Int)) < 0) rfl (fun h5 => ?_) (fun h5 => ?_)
  · refine w_seq fun K6 hK6 => ?_
    refine w_region ?_
    refine wl_val (g_assign (v := .int .i64 ((-1))) rfl) rfl ?_
    refine wl_nil ?_
    refine hK6 _ _ ?_
    refine w_ret ?_
    exact ret1 rfl (by decide) ⟨congrArg (Value.int .i64) (if_pos h5).symm, toExt hB0⟩
  · refine w_skip ?_
    refine hK3 _ _ ?_
    refine w_seq fun K7 hK7 => ?_
    refine w_region ?_
    refine wl_val (g_move (v := .int .i64 ((left - ((n : Nat) : Int)))) rfl) rfl ?_
    refine wl_val (g_assign (v := .int .i64 ((left - ((n : Nat) : Int)))) rfl) rfl ?_
    refine wl_nil ?_
    refine hK7 _ _ ?_
    refine w_ret ?_
    exact ret1 rfl (by decide) ⟨congrArg (Value.int .i64) (if_neg h5).symm, toExt hB0⟩
theorem toStay_fn (p f t : Int) {w : World} :
    Fn Try.prog 34 #[.agg #[.int .i64 (p), .int .i64 (f), .int .i64 (t)]] w (RetV w (.agg #[.int .i64 p, .int .i64 f, .int .i64 t])) := by
  refine fn_of_wp Try.func34 rfl (by kernel_rfl) (Nat.le_of_ble_eq_true rfl) ?_
  have hB0 := Below.refl w.heap.size w
  have hz0 := hB0.size
  refine w_seq fun K1 hK1 => ?_
  refine w_region ?_
  refine wl_step rfl (g_box (cs := #[.int .i64 (p), .int .i64 (f), .int .i64 (t)]) rfl rfl) ?_
  rintro _ w2 ⟨g3, rfl, hg4, hb5, hE6⟩
  have hs7 := hE6.size
  have hB8 := Ext.below hB0 hE6 (by omega)
  have hz9 := hB8.size
  refine wl_step rfl (g_alloc (cs := #[.int .i64 (0), .int .i64 (0), .int .i64 (0)]) ZR42 rfl) ?_
  rintro _ w11 ⟨g12, rfl, hg13, hb14, hE15⟩
  have hd16 : g3 ≠ g12 := by have := hb5.lt; omega
  have hs17 := hE15.size
  have hB18 := Ext.below hB8 hE15 (by omega)
  have hz19 := hB18.size
  have hb20 := hb5.ext hE15
  refine wl_nil ?_
  refine hK1 _ _ ?_
  refine w_seq fun K22 hK22 => ?_
  refine w_region ?_
  refine wl_step rfl (g_alloc (cs := #[.int .i64 (0), .int .i64 (0), .int .i64 (0)]) ZR42 rfl) ?_
  rintro _ w23 ⟨g24, rfl, hg25, hb26, hE27⟩
  have hd28 : g3 ≠ g24 := by have := hb20.lt; omega
  have hd29 : g12 ≠ g24 := by have := hb14.lt; omega
  have hs30 := hE27.size
  have hB31 := Ext.below hB18 hE27 (by omega)
  have hz32 := hB31.size
  have hb33 := hb20.ext hE27
  have hb34 := hb14.ext hE27
  refine wl_nil ?_
  refine hK22 _ _ ?_
  refine w_seq fun K36 hK36 => ?_
  refine w_region ?_
  refine wl_val (g_fieldAddr (q := (⟨g3, 0, none⟩ : Addr)) FL46_0 ON3 rfl) rfl ?_
  refine wl_val (g_load1 (q := ((⟨g3, 0, none⟩ : Addr)).add 0) (v := .int .i64 (p)) ON3 rfl (Blk.at0 (i := 0) hb33 rfl)) rfl ?_
  refine wl_val (g_fieldAddr (q := (⟨g24, 0, none⟩ : Addr)) FL42_0 ON3 rfl) rfl ?_
  refine wl_step rfl (g_storeB (g := g24) (k := 0) (bs := #[.int .i64 (0), .int .i64 (0), .int .i64 (0)]) (bs' := #[.int .i64 (p), .int .i64 (0), .int .i64 (0)]) (vs := [.int .i64 (p)]) hb26 ON3.sz rfl rfl rfl (by simp [Value.oneCell']) (Nat.le_of_ble_eq_true rfl) rfl) ?_
  rintro _ w37 ⟨rfl, hb39, hC38⟩
  have hs40 := hC38.size
  have hl41 := hb26.lt
  have hB42 := Chg.below hB31 hC38 (by omega) (fun k hk => by cases hk; omega)
  have hz43 := hB42.size
  have hb44 := hb33.chg hC38 (fun k hk => by cases hk; omega)
  have hb45 := hb34.chg hC38 (fun k hk => by cases hk; omega)
  refine wl_nil ?_
  refine hK36 _ _ ?_
  refine w_seq fun K46 hK46 => ?_
  refine w_region ?_
  refine wl_val (g_fieldAddr (q := (⟨g3, 0, none⟩ : Addr)) FL46_1 ON3 rfl) rfl ?_
  refine wl_val (g_load1 (q := ((⟨g3, 0, none⟩ : Addr)).add 1) (v := .int .i64 (f)) ON3 rfl (Blk.at0 (i := 1) hb44 rfl)) rfl ?_
  refine wl_val (g_fieldAddr (q := (⟨g24, 0, none⟩ : Addr)) FL42_1 ON3 rfl) rfl ?_
  refine wl_step rfl (g_storeB (g := g24) (k := 1) (bs := #[.int .i64 (p), .int .i64 (0), .int .i64 (0)]) (bs' := #[.int .i64 (p), .int .i64 (f), .int .i64 (0)]) (vs := [.int .i64 (f)]) hb39 ON3.sz rfl rfl rfl (by simp [Value.oneCell']) (Nat.le_of_ble_eq_true rfl) rfl) ?_
  rintro _ w47 ⟨rfl, hb49, hC48⟩
  have hs50 := hC48.size
  have hl51 := hb39.lt
  have hB52 := Chg.below hB42 hC48 (by omega) (fun k hk => by cases hk; omega)
  have hz53 := hB52.size
  have hb54 := hb44.chg hC48 (fun k hk => by cases hk; omega)
  have hb55 := hb45.chg hC48 (fun k hk => by cases hk; omega)
  refine wl_nil ?_
  refine hK46 _ _ ?_
  refine w_seq fun K56 hK56 => ?_
  refine w_region ?_
  refine wl_val (g_fieldAddr (q := (⟨g3, 0, none⟩ : Addr)) FL46_2 ON3 rfl) rfl ?_
  refine wl_val (g_load1 (q := ((⟨g3, 0, none⟩ : Addr)).add 2) (v := .int .i64 (t)) ON3 rfl (Blk.at0 (i := 2) hb54 rfl)) rfl ?_
  refine wl_val (g_fieldAddr (q := (⟨g24, 0, none⟩ : Addr)) FL42_2 ON3 rfl) rfl ?_
  refine wl_step rfl (g_storeB (g := g24) (k := 2) (bs := #[.int .i64 (p), .int .i64 (f), .int .i64 (0)]) (bs' := #[.int .i64 (p), .int .i64 (f), .int .i64 (t)]) (vs := [.int .i64 (t)]) hb49 ON3.sz rfl rfl rfl (by simp [Value.oneCell']) (Nat.le_of_ble_eq_true rfl) rfl) ?_
  rintro _ w57 ⟨rfl, hb59, hC58⟩
  have hs60 := hC58.size
  have hl61 := hb49.lt
  have hB62 := Chg.below hB52 hC58 (by omega) (fun k hk => by cases hk; omega)
  have hz63 := hB62.size
  have hb64 := hb54.chg hC58 (fun k hk => by cases hk; omega)
  have hb65 := hb55.chg hC58 (fun k hk => by cases hk; omega)
  refine wl_nil ?_
  refine hK56 _ _ ?_
  refine w_seq fun K66 hK66 => ?_
  refine w_region ?_
  refine wl_val (g_loadS (q := (⟨g24, 0, none⟩ : Addr)) (cs := [.int .i64 (p), .int .i64 (f), .int .i64 (t)]) AG42 rfl (Blk.all hb59 rfl)) rfl ?_
  refine wl_step rfl (g_storeB (g := g12) (k := 0) (bs := #[.int .i64 (0), .int .i64 (0), .int .i64 (0)]) (bs' := #[.int .i64 (p), .int .i64 (f), .int .i64 (t)]) (vs := [.int .i64 (p), .int .i64 (f), .int .i64 (t)]) hb65 AG42.sz rfl rfl rfl (by simp [Value.oneCell']) (Nat.le_of_ble_eq_true rfl) rfl) ?_
  rintro _ w67 ⟨rfl, hb69, hC68⟩
  have hs70 := hC68.size
  have hl71 := hb65.lt
  have hB72 := Chg.below hB62 hC68 (by omega) (fun k hk => by cases hk; omega)
  have hz73 := hB72.size
  have hb74 := hb64.chg hC68 (fun k hk => by cases hk; omega)
  have hb75 := hb59.chg hC68 (fun k hk => by cases hk; omega)
  refine wl_nil ?_
  refine hK66 _ _ ?_
  refine w_ret ?_
  exact ret_cell (q := (⟨g12, 0, none⟩ : Addr)) (cs := [.int .i64 (p), .int .i64 (f), .int .i64 (t)]) rfl (by decide) rfl AG42 (Blk.all hb69 rfl) ⟨rfl, toExt hB72⟩
theorem toStayS_fn {lo hi : Nat} {a : Option Addr} {c : Nat} {xs : List Stay} {w : World} (hx : Cells lo hi w a (xs.flatMap stC)) (hhi : hi ≤ w.heap.size) (hl : xs.length ≤ 1099511627776) :
    Fn Try.prog 16 #[.slice a (xs.length) (c)] w (RetS w 42 3 xs.length (xs.flatMap stC)) := by
  refine fn_of_wp Try.func16 rfl (by kernel_rfl) (Nat.le_of_ble_eq_true rfl) ?_
  have hB0 := Below.refl w.heap.size w
  have hz0 := hB0.size
  refine w_seq fun K1 hK1 => ?_
  refine w_region ?_
  refine wl_val (g_assign (v := .slice none (0) (0)) rfl) rfl ?_
  refine wl_nil ?_
  refine hK1 _ _ ?_
  refine w_seq fun K2 hK2 => ?_
  refine w_region ?_
  refine wl_val (g_move (v := .slice a (xs.length) (c)) rfl) rfl ?_
  refine wl_val (g_len' (a := a) (l := (xs.length)) (c := c) SL27 rfl) rfl ?_
  refine wl_step rfl (g_make (k := xs.length) SL30 rfl (by omega) (by unfold maxLen; omega)) ?_
  rintro _ w3 ⟨o, rfl, hO4, hE5⟩
  rw [made_stay] at hO4
  have hs6 := hE5.size
  have hB7 := Ext.below hB0 hE5 (by omega)
  have hz8 := hB7.size
  refine wl_val (g_assign (v := .slice o (xs.length) (xs.length)) rfl) rfl ?_
  refine wl_nil ?_
  refine hK2 _ _ ?_
  refine w_seq fun K9 hK9 => ?_
  refine w_seq fun K10 hK10 => ?_
  refine w_region ?_
  refine wl_val (g_assign (v := .int .i64 (0)) rfl) rfl ?_
  refine wl_nil ?_
  refine hK10 _ _ ?_
  refine w_block ?_
  refine w_for (σ := Nat × List Stay) (fun ⟨k, l⟩ => [(0, .slice a (xs.length) (c)), (3, .slice o (xs.length) (xs.length)), (4, .int .i64 (((k : Nat) : Int)))]) (fun ⟨k, l⟩ w' => (k ≤ xs.length) ∧ (l.length = xs.length) ∧ (l.take k = xs.take k) ∧ (Own w' w.heap.size 42 3 o xs.length xs.length (l.flatMap stC)) ∧ (Below w.heap.size w w')) (fun ⟨k, l⟩ => xs.length - k) (0, List.replicate xs.length ((0, 0, 0) : Stay)) ⟨rfl, rfl, rfl, trivial⟩ ?_ ?_
  · exact ⟨Nat.zero_le _, by simp, by simp, hO4.mono (by omega), hB7⟩
  · rintro ⟨k, l⟩ b13 w11 ⟨hk, hll, ht, hO, hB1⟩
    show Wp _ _ _ _ (upds b13 [(0, .slice a (xs.length) (c)), (3, .slice o (xs.length) (xs.length)), (4, .int .i64 (((k : Nat) : Int)))]) w11
    have hB1z := hB1.size
    refine w_seq fun K14 hK14 => ?_
    refine w_seq fun K15 hK15 => ?_
    refine w_region ?_
    refine wl_val (g_move (v := .int .i64 (((k : Nat) : Int))) rfl) rfl ?_
    refine wl_val (g_move (v := .slice a (xs.length) (c)) rfl) rfl ?_
    refine wl_val (g_len' (a := a) (l := (xs.length)) (c := c) SL27 rfl) rfl ?_
    refine wl_val (g_lss (a := ((k : Nat) : Int)) (b := ((xs.length : Nat) : Int)) rfl rfl) rfl ?_
    refine wl_nil ?_
    refine hK15 _ _ ?_
    refine w_cond_d (p := ((k : Nat) : Int) < ((xs.length : Nat) : Int)) rfl (fun h16 => ?_) (fun h16 => ?_)
    · refine w_skip ?_
      refine hK14 _ _ ?_
      refine w_seq fun K17 hK17 => ?_
      refine w_block ?_
      refine w_region ?_
      refine wl_val (g_move (v := .slice o (xs.length) (xs.length)) rfl) rfl ?_
      refine wl_val (g_move (v := .int .i64 (((k : Nat) : Int))) rfl) rfl ?_
      refine wl_val (g_move (v := .slice a (xs.length) (c)) rfl) rfl ?_
      refine wl_val (g_move (v := .int .i64 (((k : Nat) : Int))) rfl) rfl ?_
      refine wl_val (g_index (a := a) (l := (xs.length)) (c := c) (i := ((k : Nat) : Int)) SL27 rfl rfl (Stay_some (i := ((k : Nat) : Int)) (Cells.below hx hB1 (by omega)) (by omega) (by omega)) (by omega) (by omega)) rfl ?_
      refine wl_val (g_loadS (q := (adr a).add (k * 3)) (cs := [.int .i64 (xs[k]!.1), .int .i64 (xs[k]!.2.1), .int .i64 (xs[k]!.2.2)]) AG46 rfl (Stay_all (i := ((k : Nat) : Int)) (Cells.below hx hB1 (by omega)) (by omega) (by omega))) rfl ?_
      refine wl_step rfl (g_call (vs := #[.agg #[.int .i64 (xs[k]!.1), .int .i64 (xs[k]!.2.1), .int .i64 (xs[k]!.2.2)]]) CF34 (args1 rfl) (toStay_fn (xs[k]!.1) (xs[k]!.2.1) (xs[k]!.2.2))) ?_
      rintro _ w18 ⟨rfl, hE19⟩
      have hs20 := hE19.size
      have hB21 := Ext.below hB1 hE19 (by omega)
      have hz22 := hB21.size
      have hout23 := hO.ext hE19
      refine wl_val (g_index (a := o) (l := (xs.length)) (c := (xs.length)) (i := ((k : Nat) : Int)) SL30 rfl rfl (Stay_some (i := ((k : Nat) : Int)) (Own.cells hout23) (by omega) (by omega)) (by omega) (by omega)) rfl ?_
      refine wl_step rfl (g_store_rec (enc := stC) (xs := l) (i := k) (v := xs[k]!) hout23 stC_len AG42 (by decide) rfl rfl rfl (by simp [Value.oneCell', stC]) (by first | omega | (simp; omega))) ?_
      rintro _ w24 ⟨rfl, hO26, hC25⟩
      have hs27 := hC25.size
      have hB28 := Chg.below hB21 hC25 (by omega) (fun k hk => by have := hout23.lt k hk; omega)
      have hz29 := hB28.size
      refine wl_nil ?_
      refine hK17 _ _ ?_
      refine w_region ?_
      refine wl_val (g_move (v := .int .i64 (((k : Nat) : Int))) rfl) rfl ?_
      refine wl_val (g_add (a := ((k : Nat) : Int)) (b := 1) rfl rfl ⟨by omega, by omega⟩) rfl ?_
      refine wl_val (g_assign (v := .int .i64 ((((k : Nat) : Int) + 1))) rfl) rfl ?_
      refine wl_nil ?_
      exact ⟨(k + 1, l.set k xs[k]!), (by first | omega | (dsimp only; omega)), ⟨rfl, rfl, rfl, trivial⟩, ⟨by omega, by simp; omega, Holds_set l xs k hll (by omega) ht, hO26, hB28⟩⟩
    · refine w_exit ?_
      refine hK9 _ _ ?_
      refine w_seq fun K30 hK30 => ?_
      refine w_region ?_
      refine wl_val (g_move (v := .slice o (xs.length) (xs.length)) rfl) rfl ?_
      refine wl_val (g_assign (v := .slice o (xs.length) (xs.length)) rfl) rfl ?_
      refine wl_nil ?_
      refine hK30 _ _ ?_
      refine w_ret ?_
      have hlx : l = xs := by have h1 := ht; rw [List.take_of_length_le (by omega), List.take_of_length_le (by omega)] at h1; exact h1
      subst hlx
      exact ret1 rfl (by decide) ⟨_, _, rfl, hO.nil0, hO, toExt hB1⟩
theorem eqStay_fn (s t : Stay) {w : World} :
    Fn Try.prog 36 #[.agg #[.int .i64 (s.1), .int .i64 (s.2.1), .int .i64 (s.2.2)], .agg #[.int .i64 (t.1), .int .i64 (t.2.1), .int .i64 (t.2.2)]] w (RetV w (.bool (decide (s = t)))) := by
  refine fn_of_wp Try.func36 rfl (by kernel_rfl) (Nat.le_of_ble_eq_true rfl) ?_
  have hB0 := Below.refl w.heap.size w
  have hz0 := hB0.size
  refine w_seq fun K1 hK1 => ?_
  refine w_region ?_
  refine wl_step rfl (g_box (cs := #[.int .i64 (s.1), .int .i64 (s.2.1), .int .i64 (s.2.2)]) rfl rfl) ?_
  rintro _ w2 ⟨g3, rfl, hg4, hb5, hE6⟩
  have hs7 := hE6.size
  have hB8 := Ext.below hB0 hE6 (by omega)
  have hz9 := hB8.size
  refine wl_step rfl (g_box (cs := #[.int .i64 (t.1), .int .i64 (t.2.1), .int .i64 (t.2.2)]) rfl rfl) ?_
  rintro _ w11 ⟨g12, rfl, hg13, hb14, hE15⟩
  have hd16 : g3 ≠ g12 := by have := hb5.lt; omega
  have hs17 := hE15.size
  have hB18 := Ext.below hB8 hE15 (by omega)
  have hz19 := hB18.size
  have hb20 := hb5.ext hE15
  refine wl_val (g_assign (v := .bool (false)) rfl) rfl ?_
  refine wl_nil ?_
  refine hK1 _ _ ?_
  refine w_seq fun K22 hK22 => ?_
  refine w_seq fun K23 hK23 => ?_
  refine w_region ?_
  refine wl_val (g_fieldAddr (q := (⟨g3, 0, none⟩ : Addr)) FL42_0 ON3 rfl) rfl ?_
  refine wl_val (g_load1 (q := ((⟨g3, 0, none⟩ : Addr)).add 0) (v := .int .i64 (s.1)) ON3 rfl (Blk.at0 (i := 0) hb20 rfl)) rfl ?_
  refine wl_val (g_fieldAddr (q := (⟨g12, 0, none⟩ : Addr)) FL42_0 ON3 rfl) rfl ?_
  refine wl_val (g_load1 (q := ((⟨g12, 0, none⟩ : Addr)).add 0) (v := .int .i64 (t.1)) ON3 rfl (Blk.at0 (i := 0) hb14 rfl)) rfl ?_
  refine wl_val (g_neq (a := s.1) (b := t.1) rfl rfl) rfl ?_
  refine wl_nil ?_
  refine hK23 _ _ ?_
  refine w_cond_d (p := s.1 ≠ t.1) rfl (fun h24 => ?_) (fun h24 => ?_)
  · refine w_seq fun K25 hK25 => ?_
    refine w_region ?_
    refine wl_val (g_assign (v := .bool (false)) rfl) rfl ?_
    refine wl_nil ?_
    refine hK25 _ _ ?_
    refine w_ret ?_
    exact ret1 rfl (by decide) ⟨congrArg Value.bool (eq_stay_false (by omega)).symm, toExt hB18⟩
  · refine w_skip ?_
    refine hK22 _ _ ?_
    refine w_seq fun K26 hK26 => ?_
    refine w_seq fun K27 hK27 => ?_
    refine w_region ?_
    refine wl_val (g_fieldAddr (q := (⟨g3, 0, none⟩ : Addr)) FL42_1 ON3 rfl) rfl ?_
    refine wl_val (g_load1 (q := ((⟨g3, 0, none⟩ : Addr)).add 1) (v := .int .i64 (s.2.1)) ON3 rfl (Blk.at0 (i := 1) hb20 rfl)) rfl ?_
    refine wl_val (g_fieldAddr (q := (⟨g12, 0, none⟩ : Addr)) FL42_1 ON3 rfl) rfl ?_
    refine wl_val (g_load1 (q := ((⟨g12, 0, none⟩ : Addr)).add 1) (v := .int .i64 (t.2.1)) ON3 rfl (Blk.at0 (i := 1) hb14 rfl)) rfl ?_
    refine wl_val (g_neq (a := s.2.1) (b := t.2.1) rfl rfl) rfl ?_
    refine wl_nil ?_
    refine hK27 _ _ ?_
    refine w_cond_d (p := s.2.1 ≠ t.2.1) rfl (fun h28 => ?_) (fun h28 => ?_)
    · refine w_seq fun K29 hK29 => ?_
      refine w_region ?_
      refine wl_val (g_assign (v := .bool (false)) rfl) rfl ?_
      refine wl_nil ?_
      refine hK29 _ _ ?_
      refine w_ret ?_
      exact ret1 rfl (by decide) ⟨congrArg Value.bool (eq_stay_false (by omega)).symm, toExt hB18⟩
    · refine w_skip ?_
      refine hK26 _ _ ?_
      refine w_seq fun K30 hK30 => ?_
      refine w_seq fun K31 hK31 => ?_
      refine w_region ?_
      refine wl_val (g_fieldAddr (q := (⟨g3, 0, none⟩ : Addr)) FL42_2 ON3 rfl) rfl ?_
      refine wl_val (g_load1 (q := ((⟨g3, 0, none⟩ : Addr)).add 2) (v := .int .i64 (s.2.2)) ON3 rfl (Blk.at0 (i := 2) hb20 rfl)) rfl ?_
      refine wl_val (g_fieldAddr (q := (⟨g12, 0, none⟩ : Addr)) FL42_2 ON3 rfl) rfl ?_
      refine wl_val (g_load1 (q := ((⟨g12, 0, none⟩ : Addr)).add 2) (v := .int .i64 (t.2.2)) ON3 rfl (Blk.at0 (i := 2) hb14 rfl)) rfl ?_
      refine wl_val (g_neq (a := s.2.2) (b := t.2.2) rfl rfl) rfl ?_
      refine wl_nil ?_
      refine hK31 _ _ ?_
      refine w_cond_d (p := s.2.2 ≠ t.2.2) rfl (fun h32 => ?_) (fun h32 => ?_)
      · refine w_seq fun K33 hK33 => ?_
        refine w_region ?_
        refine wl_val (g_assign (v := .bool (false)) rfl) rfl ?_
        refine wl_nil ?_
        refine hK33 _ _ ?_
        refine w_ret ?_
        exact ret1 rfl (by decide) ⟨congrArg Value.bool (eq_stay_false (by omega)).symm, toExt hB18⟩
      · refine w_skip ?_
        refine hK30 _ _ ?_
        refine w_seq fun K34 hK34 => ?_
        refine w_region ?_
        refine wl_val (g_assign (v := .bool (true)) rfl) rfl ?_
        refine wl_nil ?_
        refine hK34 _ _ ?_
        refine w_ret ?_
        exact ret1 rfl (by decide) ⟨congrArg Value.bool (eq_stay_true (by omega)).symm, toExt hB18⟩
theorem eqStayS_fn {lo hi lo2 hi2 : Nat} {a b : Option Addr} {c d : Nat} {xs ys : List Stay} {w : World} (hx : Cells lo hi w a (xs.flatMap stC)) (hy : Cells lo2 hi2 w b (ys.flatMap stC)) (hhi : hi ≤ w.heap.size) (hhi2 : hi2 ≤ w.heap.size) (hl : xs.length ≤ 1099511627776) :
    Fn Try.prog 18 #[.slice a (xs.length) (c), .slice b (ys.length) (d)] w (RetV w (.bool (decide (xs = ys)))) := by
  refine fn_of_wp Try.func18 rfl (by kernel_rfl) (Nat.le_of_ble_eq_true rfl) ?_
  have hB0 := Below.refl w.heap.size w
  have hz0 := hB0.size
  refine w_seq fun K1 hK1 => ?_
  refine w_region ?_
  refine wl_val (g_assign (v := .bool (false)) rfl) rfl ?_
  refine wl_nil ?_
  refine hK1 _ _ ?_
  refine w_seq fun K2 hK2 => ?_
  refine w_seq fun K3 hK3 => ?_
  refine w_region ?_
  refine wl_val (g_move (v := .slice a (xs.length) (c)) rfl) rfl ?_
  refine wl_val (g_len' (a := a) (l := (xs.length)) (c := c) SL30 rfl) rfl ?_
  refine wl_val (g_move (v := .slice b (ys.length) (d)) rfl) rfl ?_
  refine wl_val (g_len' (a := b) (l := (ys.length)) (c := d) SL30 rfl) rfl ?_
  refine wl_val (g_neq (a := ((xs.length : Nat) : Int)) (b := ((ys.length : Nat) : Int)) rfl rfl) rfl ?_
  refine wl_nil ?_
  refine hK3 _ _ ?_
  refine w_cond_d (p := ((xs.length : Nat) : Int) ≠ ((ys.length : Nat) : Int)) rfl (fun h4 => ?_) (fun h4 => ?_)
  · refine w_seq fun K5 hK5 => ?_
    refine w_region ?_
    refine wl_val (g_assign (v := .bool (false)) rfl) rfl ?_
    refine wl_nil ?_
    refine hK5 _ _ ?_
    refine w_ret ?_
    exact ret1 rfl (by decide) ⟨congrArg Value.bool (decide_eq_false (fun h => h4 (by rw [h]))).symm, toExt hB0⟩
  · refine w_skip ?_
    refine hK2 _ _ ?_
    refine w_seq fun K6 hK6 => ?_
    refine w_seq fun K7 hK7 => ?_
    refine w_region ?_
    refine wl_val (g_assign (v := .int .i64 (0)) rfl) rfl ?_
    refine wl_nil ?_
    refine hK7 _ _ ?_
    refine w_block ?_
    refine w_for (σ := Nat) (fun k => [(0, .slice a (xs.length) (c)), (1, .slice b (ys.length) (d)), (5, .int .i64 (((k : Nat) : Int)))]) (fun k w' => (k ≤ xs.length) ∧ (xs.take k = ys.take k) ∧ (Below w.heap.size w w')) (fun k => xs.length - k) (0) ⟨rfl, rfl, rfl, trivial⟩ ?_ ?_
    · exact ⟨Nat.zero_le _, rfl, hB0⟩
    · rintro k b10 w8 ⟨hk, ht, hB1⟩
      show Wp _ _ _ _ (upds b10 [(0, .slice a (xs.length) (c)), (1, .slice b (ys.length) (d)), (5, .int .i64 (((k : Nat) : Int)))]) w8
      have hB1z := hB1.size
      have hle : xs.length = ys.length := by omega
      refine w_seq fun K11 hK11 => ?_
      refine w_seq fun K12 hK12 => ?_
      refine w_region ?_
      refine wl_val (g_move (v := .int .i64 (((k : Nat) : Int))) rfl) rfl ?_
      refine wl_val (g_move (v := .slice a (xs.length) (c)) rfl) rfl ?_
      refine wl_val (g_len' (a := a) (l := (xs.length)) (c := c) SL30 rfl) rfl ?_
      refine wl_val (g_lss (a := ((k : Nat) : Int)) (b := ((xs.length : Nat) : Int)) rfl rfl) rfl ?_
      refine wl_nil ?_
      refine hK12 _ _ ?_
      refine w_cond_d (p := ((k : Nat) : Int) < ((xs.length : Nat) : Int)) rfl (fun h13 => ?_) (fun h13 => ?_)
      · refine w_skip ?_
        refine hK11 _ _ ?_
        refine w_seq fun K14 hK14 => ?_
        refine w_block ?_
        refine w_seq fun K15 hK15 => ?_
        refine w_draw (X := Ext) [] MIX (by decide +kernel) Ext.refl (fun _ _ _ => Ext.trans) (fun w16 hE17 => ?_)
        have hs18 := hE17.size
        have hB19 := Ext.below hB1 hE17 (by omega)
        have hz20 := hB19.size
        refine ⟨.slice a (xs.length) (c), fun w21 hX22 => od_plain rfl (by have hX22z := hX22.size; exact is_ext (g_move (v := .slice a (xs.length) (c)) rfl)), ?_⟩
        refine ⟨.int .i64 (((k : Nat) : Int)), fun w23 hX24 => od_plain rfl (by have hX24z := hX24.size; exact is_ext (g_move (v := .int .i64 (((k : Nat) : Int))) rfl)), ?_⟩
        refine ⟨.pointer (some ((adr a).add (k * 3))), fun w25 hX26 => od_plain rfl (by have hX26z := hX26.size; exact is_ext (g_index (a := a) (l := (xs.length)) (c := c) (i := ((k : Nat) : Int)) SL30 rfl rfl (Stay_some (i := ((k : Nat) : Int)) (Cells.ext (Cells.below hx hB19 (by omega)) hX26 (by omega)) (by omega) (by omega)) (by omega) (by omega))), ?_⟩
        refine ⟨.agg #[.int .i64 (xs[k]!.1), .int .i64 (xs[k]!.2.1), .int .i64 (xs[k]!.2.2)], fun w27 hX28 => od_plain rfl (by have hX28z := hX28.size; exact is_ext (g_loadS (q := (adr a).add (k * 3)) (cs := [.int .i64 (xs[k]!.1), .int .i64 (xs[k]!.2.1), .int .i64 (xs[k]!.2.2)]) AG42 rfl (Stay_all (i := ((k : Nat) : Int)) (Cells.ext (Cells.below hx hB19 (by omega)) hX28 (by omega)) (by omega) (by omega)))), ?_⟩
        refine ⟨.slice b (ys.length) (d), fun w29 hX30 => od_plain rfl (by have hX30z := hX30.size; exact is_ext (g_move (v := .slice b (ys.length) (d)) rfl)), ?_⟩
        refine ⟨.int .i64 (((k : Nat) : Int)), fun w31 hX32 => od_plain rfl (by have hX32z := hX32.size; exact is_ext (g_move (v := .int .i64 (((k : Nat) : Int))) rfl)), ?_⟩
        refine ⟨.pointer (some ((adr b).add (k * 3))), fun w33 hX34 => od_plain rfl (by have hX34z := hX34.size; exact is_ext (g_index (a := b) (l := (ys.length)) (c := d) (i := ((k : Nat) : Int)) SL30 rfl rfl (Stay_some (i := ((k : Nat) : Int)) (Cells.ext (Cells.below hy hB19 (by omega)) hX34 (by omega)) (by omega) (by omega)) (by omega) (by omega))), ?_⟩
        refine ⟨.agg #[.int .i64 (ys[k]!.1), .int .i64 (ys[k]!.2.1), .int .i64 (ys[k]!.2.2)], fun w35 hX36 => od_plain rfl (by have hX36z := hX36.size; exact is_ext (g_loadS (q := (adr b).add (k * 3)) (cs := [.int .i64 (ys[k]!.1), .int .i64 (ys[k]!.2.1), .int .i64 (ys[k]!.2.2)]) AG42 rfl (Stay_all (i := ((k : Nat) : Int)) (Cells.ext (Cells.below hy hB19 (by omega)) hX36 (by omega)) (by omega) (by omega)))), ?_⟩
        refine ⟨.bool (decide (xs[k]! = ys[k]!)), fun w37 hX38 => od_plain rfl (by have hX38z := hX38.size; exact (g_call (vs := #[.agg #[.int .i64 (xs[k]!.1), .int .i64 (xs[k]!.2.1), .int .i64 (xs[k]!.2.2)], .agg #[.int .i64 (ys[k]!.1), .int .i64 (ys[k]!.2.1), .int .i64 (ys[k]!.2.2)]]) CF36 (args2 rfl rfl) (eqStay_fn (xs[k]!) (ys[k]!)))), ?_⟩
        refine ⟨.bool (!(decide (xs[k]! = ys[k]!))), fun w39 hX40 => od_plain rfl (by have hX40z := hX40.size; exact is_ext (g_not (a := (decide (xs[k]! = ys[k]!))) rfl)), ?_⟩
        intro w41 hX42
        have hs43 := hX42.size
        have hB44 := Ext.below hB19 hX42 (by omega)
        have hz45 := hB44.size
        refine hK15 _ _ ?_
        refine w_cond (b := (!(decide (xs[k]! = ys[k]!)))) rfl (fun h46 => ?_) (fun h46 => ?_)
        · replace h46 := (fun h => of_decide_eq_false (bt_not h)) h46
          refine w_seq fun K47 hK47 => ?_
          refine w_region ?_
          refine wl_val (g_assign (v := .bool (false)) rfl) rfl ?_
          refine wl_nil ?_
          refine hK47 _ _ ?_
          refine w_ret ?_
          exact ret1 rfl (by decide) ⟨congrArg Value.bool (decide_eq_false (fun h => (show ¬ xs[k]! = ys[k]! from by simpa using h46) (by rw [h]))).symm, toExt hB44⟩
        · replace h46 := (fun h => of_decide_eq_true (bf_not h)) h46
          refine w_skip ?_
          refine hK14 _ _ ?_
          refine w_region ?_
          refine wl_val (g_move (v := .int .i64 (((k : Nat) : Int))) rfl) rfl ?_
          refine wl_val (g_add (a := ((k : Nat) : Int)) (b := 1) rfl rfl ⟨by omega, by omega⟩) rfl ?_
          refine wl_val (g_assign (v := .int .i64 ((((k : Nat) : Int) + 1))) rfl) rfl ?_
          refine wl_nil ?_
          exact ⟨(k + 1), (by first | omega | (dsimp only; omega)), ⟨rfl, rfl, rfl, trivial⟩, ⟨by omega, by rw [take_snoc! xs k (by omega), take_snoc! ys k (by omega), ht, (show xs[k]! = ys[k]! from by simpa using h46)], hB44⟩⟩
      · refine w_exit ?_
        refine hK6 _ _ ?_
        refine w_seq fun K48 hK48 => ?_
        refine w_region ?_
        refine wl_val (g_assign (v := .bool (true)) rfl) rfl ?_
        refine wl_nil ?_
        refine hK48 _ _ ?_
        refine w_ret ?_
        exact ret1 rfl (by decide) ⟨congrArg Value.bool (decide_eq_true (all_eq hle ht (by omega))).symm, toExt hB1⟩
theorem specStaysOk_fn {lo hi : Nat} {a : Option Addr} {c : Nat} {xs : List Stay} {w : World} (hx : Cells lo hi w a (xs.flatMap stC)) (hhi : hi ≤ w.heap.size) (hl : xs.length ≤ 1099511627776) :
    Fn Try.prog 15 #[.slice a (xs.length) (c)] w (RetV w (.bool (staysOk xs))) := by
  refine fn_of_wp Try.func15 rfl (by kernel_rfl) (Nat.le_of_ble_eq_true rfl) ?_
  have hB0 := Below.refl w.heap.size w
  have hz0 := hB0.size
  refine w_seq fun K1 hK1 => ?_
  refine w_region ?_
  refine wl_val (g_assign (v := .bool (false)) rfl) rfl ?_
  refine wl_nil ?_
  refine hK1 _ _ ?_
  refine w_seq fun K2 hK2 => ?_
  refine w_seq fun K3 hK3 => ?_
  refine w_region ?_
  refine wl_val (g_assign (v := .int .i64 (0)) rfl) rfl ?_
  refine wl_nil ?_
  refine hK3 _ _ ?_
  refine w_block ?_
  refine w_for (σ := Nat) (fun k => [(0, .slice a (xs.length) (c)), (3, .int .i64 (((k : Nat) : Int)))]) (fun k w' => (k ≤ xs.length) ∧ ((xs.take k).all okS = true) ∧ (Below w.heap.size w w')) (fun k => xs.length - k) (0) ⟨rfl, rfl, trivial⟩ ?_ ?_
  · exact ⟨Nat.zero_le _, rfl, hB0⟩
  · rintro k b6 w4 ⟨hk, ht, hB1⟩
    show Wp _ _ _ _ (upds b6 [(0, .slice a (xs.length) (c)), (3, .int .i64 (((k : Nat) : Int)))]) w4
    have hB1z := hB1.size
    refine w_seq fun K7 hK7 => ?_
    refine w_seq fun K8 hK8 => ?_
    refine w_region ?_
    refine wl_val (g_move (v := .int .i64 (((k : Nat) : Int))) rfl) rfl ?_
    refine wl_val (g_move (v := .slice a (xs.length) (c)) rfl) rfl ?_
    refine wl_val (g_len' (a := a) (l := (xs.length)) (c := c) SL30 rfl) rfl ?_
    refine wl_val (g_lss (a := ((k : Nat) : Int)) (b := ((xs.length : Nat) : Int)) rfl rfl) rfl ?_
    refine wl_nil ?_
    refine hK8 _ _ ?_
    refine w_cond_d (p := ((k : Nat) : Int) < ((xs.length : Nat) : Int)) rfl (fun h9 => ?_) (fun h9 => ?_)
    · refine w_skip ?_
      refine hK7 _ _ ?_
      refine w_seq fun K10 hK10 => ?_
      refine w_block ?_
      refine w_seq fun K11 hK11 => ?_
      refine w_region ?_
      refine wl_val (g_move (v := .slice a (xs.length) (c)) rfl) rfl ?_
      refine wl_val (g_move (v := .int .i64 (((k : Nat) : Int))) rfl) rfl ?_
      refine wl_val (g_index (a := a) (l := (xs.length)) (c := c) (i := ((k : Nat) : Int)) SL30 rfl rfl (Stay_some (i := ((k : Nat) : Int)) (Cells.below hx hB1 (by omega)) (by omega) (by omega)) (by omega) (by omega)) rfl ?_
      refine wl_val (g_loadS (q := (adr a).add (k * 3)) (cs := [.int .i64 (xs[k]!.1), .int .i64 (xs[k]!.2.1), .int .i64 (xs[k]!.2.2)]) AG42 rfl (Stay_all (i := ((k : Nat) : Int)) (Cells.below hx hB1 (by omega)) (by omega) (by omega))) rfl ?_
      refine wl_step rfl (g_alloc (cs := #[.int .i64 (0), .int .i64 (0), .int .i64 (0)]) ZR42 rfl) ?_
      rintro _ w12 ⟨g13, rfl, hg14, hb15, hE16⟩
      have hs17 := hE16.size
      have hB18 := Ext.below hB1 hE16 (by omega)
      have hz19 := hB18.size
      refine wl_step rfl (g_storeB (g := g13) (k := 0) (bs := #[.int .i64 (0), .int .i64 (0), .int .i64 (0)]) (bs' := #[.int .i64 (xs[k]!.1), .int .i64 (xs[k]!.2.1), .int .i64 (xs[k]!.2.2)]) (vs := [.int .i64 (xs[k]!.1), .int .i64 (xs[k]!.2.1), .int .i64 (xs[k]!.2.2)]) hb15 AG42.sz rfl rfl rfl (by simp [Value.oneCell']) (Nat.le_of_ble_eq_true rfl) rfl) ?_
      rintro _ w21 ⟨rfl, hb23, hC22⟩
      have hs24 := hC22.size
      have hl25 := hb15.lt
      have hB26 := Chg.below hB18 hC22 (by omega) (fun k hk => by cases hk; omega)
      have hz27 := hB26.size
      refine wl_nil ?_
      refine hK11 _ _ ?_
      refine w_seq fun K28 hK28 => ?_
      refine w_region ?_
      refine wl_val (g_fieldAddr (q := (⟨g13, 0, none⟩ : Addr)) FL42_0 ON3 rfl) rfl ?_
      refine wl_val (g_load1 (q := ((⟨g13, 0, none⟩ : Addr)).add 0) (v := .int .i64 (xs[k]!.1)) ON3 rfl (Blk.at0 (i := 0) hb23 rfl)) rfl ?_
      refine wl_step rfl (g_call (vs := #[.int .i64 (xs[k]!.1), .int .i64 (0), .int .i64 (6)]) CF33 (args3 rfl rfl rfl) (specIn_fn (xs[k]!.1) 0 6)) ?_
      rintro _ w29 ⟨rfl, hE30⟩
      have hs31 := hE30.size
      have hB32 := Ext.below hB26 hE30 (by omega)
      have hz33 := hB32.size
      have hb34 := hb23.ext hE30
      refine wl_val (g_not (a := (decide (0 ≤ xs[k]!.1 ∧ xs[k]!.1 ≤ 6))) rfl) rfl ?_
      refine wl_val (g_move (v := .bool (!(decide (0 ≤ xs[k]!.1 ∧ xs[k]!.1 ≤ 6)))) rfl) rfl ?_
      refine wl_guard (c := (!(decide (0 ≤ xs[k]!.1 ∧ xs[k]!.1 ≤ 6))) = false) (val := .pointer (some (((⟨g13, 0, none⟩ : Addr)).add 2))) (b := ((!(decide (0 ≤ xs[k]!.1 ∧ xs[k]!.1 ≤ 6))) == false)) (gv_some rfl rfl rfl) beq_iff_eq (fun hg35 => ?_) ?_
      · have hg35p := (fun h => of_decide_eq_true (bf_not h)) hg35
        exact g_fieldAddr (q := (⟨g13, 0, none⟩ : Addr)) FL42_2 ON3 rfl
      refine wl_guard (c := (!(decide (0 ≤ xs[k]!.1 ∧ xs[k]!.1 ≤ 6))) = false) (val := .int .i64 (xs[k]!.2.2)) (b := ((!(decide (0 ≤ xs[k]!.1 ∧ xs[k]!.1 ≤ 6))) == false)) (gv_some rfl rfl rfl) beq_iff_eq (fun hg36 => ?_) ?_
      · have hg36p := (fun h => of_decide_eq_true (bf_not h)) hg36
        exact g_load1 (q := ((⟨g13, 0, none⟩ : Addr)).add 2) (v := .int .i64 (xs[k]!.2.2)) ON3 (if_pos hg36) (Blk.at0 (i := 2) hb34 rfl)
      refine wl_guardE (X := Ext) (c := (!(decide (0 ≤ xs[k]!.1 ∧ xs[k]!.1 ≤ 6))) = false) (val := .bool (decide (1 ≤ xs[k]!.2.2 ∧ xs[k]!.2.2 ≤ 1000))) (b := ((!(decide (0 ≤ xs[k]!.1 ∧ xs[k]!.1 ≤ 6))) == false)) (Ext.refl _) (gv_some rfl rfl rfl) beq_iff_eq (fun hg37 => ?_) (fun w38 hE39 => ?_)
      · have hg37p := (fun h => of_decide_eq_true (bf_not h)) hg37
        exact g_call (vs := #[.int .i64 (xs[k]!.2.2), .int .i64 (1), .int .i64 (1000)]) CF33 (args3 (if_pos hg37) rfl rfl) (specIn_fn (xs[k]!.2.2) 1 1000)
      have hs40 := hE39.size
      have hB41 := Ext.below hB32 hE39 (by omega)
      have hz42 := hB41.size
      have hb43 := hb34.ext hE39
      refine wl_guard (c := (!(decide (0 ≤ xs[k]!.1 ∧ xs[k]!.1 ≤ 6))) = false) (val := .bool (!(decide (1 ≤ xs[k]!.2.2 ∧ xs[k]!.2.2 ≤ 1000)))) (b := ((!(decide (0 ≤ xs[k]!.1 ∧ xs[k]!.1 ≤ 6))) == false)) (gv_some rfl rfl rfl) beq_iff_eq (fun hg44 => ?_) ?_
      · have hg44p := (fun h => of_decide_eq_true (bf_not h)) hg44
        exact g_not (a := (decide (1 ≤ xs[k]!.2.2 ∧ xs[k]!.2.2 ≤ 1000))) (if_pos hg44)
      refine wl_val (g_pick (b := (!(decide (0 ≤ xs[k]!.1 ∧ xs[k]!.1 ≤ 6)))) (v := .bool (!(decide (0 ≤ xs[k]!.1 ∧ xs[k]!.1 ≤ 6)) || !(decide (1 ≤ xs[k]!.2.2 ∧ xs[k]!.2.2 ≤ 1000)))) rfl (fun h => by rw [h]; rfl) (fun h => by show (if _ then _ else _ : Value) = _; rw [if_pos h, h]; rfl)) rfl ?_
      refine wl_val (g_move (v := .bool ((!(decide (0 ≤ xs[k]!.1 ∧ xs[k]!.1 ≤ 6)) || !(decide (1 ≤ xs[k]!.2.2 ∧ xs[k]!.2.2 ≤ 1000))))) rfl) rfl ?_
      refine wl_guard (c := ((!(decide (0 ≤ xs[k]!.1 ∧ xs[k]!.1 ≤ 6)) || !(decide (1 ≤ xs[k]!.2.2 ∧ xs[k]!.2.2 ≤ 1000)))) = false) (val := .pointer (some (((⟨g13, 0, none⟩ : Addr)).add 1))) (b := (((!(decide (0 ≤ xs[k]!.1 ∧ xs[k]!.1 ≤ 6)) || !(decide (1 ≤ xs[k]!.2.2 ∧ xs[k]!.2.2 ≤ 1000)))) == false)) (gv_some rfl rfl rfl) beq_iff_eq (fun hg45 => ?_) ?_
      · have hg45p := (fun h => And.imp (fun h => of_decide_eq_true (bf_not h)) (fun h => of_decide_eq_true (bf_not h)) (bf_or h)) hg45
        exact g_fieldAddr (q := (⟨g13, 0, none⟩ : Addr)) FL42_1 ON3 rfl
      refine wl_guard (c := ((!(decide (0 ≤ xs[k]!.1 ∧ xs[k]!.1 ≤ 6)) || !(decide (1 ≤ xs[k]!.2.2 ∧ xs[k]!.2.2 ≤ 1000)))) = false) (val := .int .i64 (xs[k]!.2.1)) (b := (((!(decide (0 ≤ xs[k]!.1 ∧ xs[k]!.1 ≤ 6)) || !(decide (1 ≤ xs[k]!.2.2 ∧ xs[k]!.2.2 ≤ 1000)))) == false)) (gv_some rfl rfl rfl) beq_iff_eq (fun hg46 => ?_) ?_
      · have hg46p := (fun h => And.imp (fun h => of_decide_eq_true (bf_not h)) (fun h => of_decide_eq_true (bf_not h)) (bf_or h)) hg46
        exact g_load1 (q := ((⟨g13, 0, none⟩ : Addr)).add 1) (v := .int .i64 (xs[k]!.2.1)) ON3 (if_pos hg46) (Blk.at0 (i := 1) hb43 rfl)
      refine wl_guard (c := ((!(decide (0 ≤ xs[k]!.1 ∧ xs[k]!.1 ≤ 6)) || !(decide (1 ≤ xs[k]!.2.2 ∧ xs[k]!.2.2 ≤ 1000)))) = false) (val := .pointer (some (((⟨g13, 0, none⟩ : Addr)).add 2))) (b := (((!(decide (0 ≤ xs[k]!.1 ∧ xs[k]!.1 ≤ 6)) || !(decide (1 ≤ xs[k]!.2.2 ∧ xs[k]!.2.2 ≤ 1000)))) == false)) (gv_some rfl rfl rfl) beq_iff_eq (fun hg47 => ?_) ?_
      · have hg47p := (fun h => And.imp (fun h => of_decide_eq_true (bf_not h)) (fun h => of_decide_eq_true (bf_not h)) (bf_or h)) hg47
        exact g_fieldAddr (q := (⟨g13, 0, none⟩ : Addr)) FL42_2 ON3 rfl
      refine wl_guard (c := ((!(decide (0 ≤ xs[k]!.1 ∧ xs[k]!.1 ≤ 6)) || !(decide (1 ≤ xs[k]!.2.2 ∧ xs[k]!.2.2 ≤ 1000)))) = false) (val := .int .i64 (xs[k]!.2.2)) (b := (((!(decide (0 ≤ xs[k]!.1 ∧ xs[k]!.1 ≤ 6)) || !(decide (1 ≤ xs[k]!.2.2 ∧ xs[k]!.2.2 ≤ 1000)))) == false)) (gv_some rfl rfl rfl) beq_iff_eq (fun hg48 => ?_) ?_
      · have hg48p := (fun h => And.imp (fun h => of_decide_eq_true (bf_not h)) (fun h => of_decide_eq_true (bf_not h)) (bf_or h)) hg48
        exact g_load1 (q := ((⟨g13, 0, none⟩ : Addr)).add 2) (v := .int .i64 (xs[k]!.2.2)) ON3 (if_pos hg48) (Blk.at0 (i := 2) hb43 rfl)
      refine wl_guard (c := ((!(decide (0 ≤ xs[k]!.1 ∧ xs[k]!.1 ≤ 6)) || !(decide (1 ≤ xs[k]!.2.2 ∧ xs[k]!.2.2 ≤ 1000)))) = false) (val := .int .i64 ((xs[k]!.2.2 - 1))) (b := (((!(decide (0 ≤ xs[k]!.1 ∧ xs[k]!.1 ≤ 6)) || !(decide (1 ≤ xs[k]!.2.2 ∧ xs[k]!.2.2 ≤ 1000)))) == false)) (gv_some rfl rfl rfl) beq_iff_eq (fun hg49 => ?_) ?_
      · have hg49p := (fun h => And.imp (fun h => of_decide_eq_true (bf_not h)) (fun h => of_decide_eq_true (bf_not h)) (bf_or h)) hg49
        exact g_sub (a := xs[k]!.2.2) (b := 1) (if_pos hg49) rfl ⟨by omega, by omega⟩
      refine wl_guardE (X := Ext) (c := ((!(decide (0 ≤ xs[k]!.1 ∧ xs[k]!.1 ≤ 6)) || !(decide (1 ≤ xs[k]!.2.2 ∧ xs[k]!.2.2 ≤ 1000)))) = false) (val := .bool (decide (0 ≤ xs[k]!.2.1 ∧ xs[k]!.2.1 ≤ (xs[k]!.2.2 - 1)))) (b := (((!(decide (0 ≤ xs[k]!.1 ∧ xs[k]!.1 ≤ 6)) || !(decide (1 ≤ xs[k]!.2.2 ∧ xs[k]!.2.2 ≤ 1000)))) == false)) (Ext.refl _) (gv_some rfl rfl rfl) beq_iff_eq (fun hg50 => ?_) (fun w51 hE52 => ?_)
      · have hg50p := (fun h => And.imp (fun h => of_decide_eq_true (bf_not h)) (fun h => of_decide_eq_true (bf_not h)) (bf_or h)) hg50
        exact g_call (vs := #[.int .i64 (xs[k]!.2.1), .int .i64 (0), .int .i64 ((xs[k]!.2.2 - 1))]) CF33 (args3 (if_pos hg50) rfl (if_pos hg50)) (specIn_fn (xs[k]!.2.1) 0 ((xs[k]!.2.2 - 1)))
      have hs53 := hE52.size
      have hB54 := Ext.below hB41 hE52 (by omega)
      have hz55 := hB54.size
      have hb56 := hb43.ext hE52
      refine wl_guard (c := ((!(decide (0 ≤ xs[k]!.1 ∧ xs[k]!.1 ≤ 6)) || !(decide (1 ≤ xs[k]!.2.2 ∧ xs[k]!.2.2 ≤ 1000)))) = false) (val := .bool (!(decide (0 ≤ xs[k]!.2.1 ∧ xs[k]!.2.1 ≤ (xs[k]!.2.2 - 1))))) (b := (((!(decide (0 ≤ xs[k]!.1 ∧ xs[k]!.1 ≤ 6)) || !(decide (1 ≤ xs[k]!.2.2 ∧ xs[k]!.2.2 ≤ 1000)))) == false)) (gv_some rfl rfl rfl) beq_iff_eq (fun hg57 => ?_) ?_
      · have hg57p := (fun h => And.imp (fun h => of_decide_eq_true (bf_not h)) (fun h => of_decide_eq_true (bf_not h)) (bf_or h)) hg57
        exact g_not (a := (decide (0 ≤ xs[k]!.2.1 ∧ xs[k]!.2.1 ≤ (xs[k]!.2.2 - 1)))) (if_pos hg57)
      refine wl_val (g_pick (b := ((!(decide (0 ≤ xs[k]!.1 ∧ xs[k]!.1 ≤ 6)) || !(decide (1 ≤ xs[k]!.2.2 ∧ xs[k]!.2.2 ≤ 1000))))) (v := .bool ((!(decide (0 ≤ xs[k]!.1 ∧ xs[k]!.1 ≤ 6)) || !(decide (1 ≤ xs[k]!.2.2 ∧ xs[k]!.2.2 ≤ 1000))) || !(decide (0 ≤ xs[k]!.2.1 ∧ xs[k]!.2.1 ≤ (xs[k]!.2.2 - 1))))) rfl (fun h => by rw [h]; rfl) (fun h => by show (if _ then _ else _ : Value) = _; rw [if_pos h, h]; rfl)) rfl ?_
      refine wl_nil ?_
      refine hK28 _ _ ?_
      refine w_cond (b := (((!(decide (0 ≤ xs[k]!.1 ∧ xs[k]!.1 ≤ 6)) || !(decide (1 ≤ xs[k]!.2.2 ∧ xs[k]!.2.2 ≤ 1000))) || !(decide (0 ≤ xs[k]!.2.1 ∧ xs[k]!.2.1 ≤ (xs[k]!.2.2 - 1)))))) rfl (fun h58 => ?_) (fun h58 => ?_)
      · replace h58 := (fun h => Or.imp (fun h => Or.imp (fun h => of_decide_eq_false (bt_not h)) (fun h => of_decide_eq_false (bt_not h)) (bt_or h)) (fun h => of_decide_eq_false (bt_not h)) (bt_or h)) h58
        refine w_seq fun K59 hK59 => ?_
        refine w_region ?_
        refine wl_val (g_assign (v := .bool (false)) rfl) rfl ?_
        refine wl_nil ?_
        refine hK59 _ _ ?_
        refine w_ret ?_
        exact ret1 rfl (by decide) ⟨congrArg Value.bool (so_bad (k := k) (by omega) (by rw [okS_iff]; omega)).symm, toExt hB54⟩
      · replace h58 := (fun h => And.imp (fun h => And.imp (fun h => of_decide_eq_true (bf_not h)) (fun h => of_decide_eq_true (bf_not h)) (bf_or h)) (fun h => of_decide_eq_true (bf_not h)) (bf_or h)) h58
        refine w_skip ?_
        refine hK10 _ _ ?_
        refine w_region ?_
        refine wl_val (g_move (v := .int .i64 (((k : Nat) : Int))) rfl) rfl ?_
        refine wl_val (g_add (a := ((k : Nat) : Int)) (b := 1) rfl rfl ⟨by omega, by omega⟩) rfl ?_
        refine wl_val (g_assign (v := .int .i64 ((((k : Nat) : Int) + 1))) rfl) rfl ?_
        refine wl_nil ?_
        exact ⟨(k + 1), (by first | omega | (dsimp only; omega)), ⟨rfl, rfl, trivial⟩, ⟨by omega, so_step (by omega) ht (by rw [okS_iff]; omega), hB54⟩⟩
    · refine w_exit ?_
      refine hK2 _ _ ?_
      refine w_seq fun K60 hK60 => ?_
      refine w_region ?_
      refine wl_val (g_move (v := .slice a (xs.length) (c)) rfl) rfl ?_
      refine wl_val (g_len' (a := a) (l := (xs.length)) (c := c) SL30 rfl) rfl ?_
      refine wl_val (g_leq (a := ((xs.length : Nat) : Int)) (b := 20) rfl rfl) rfl ?_
      refine wl_val (g_assign (v := .bool (decide (((xs.length : Nat) : Int) ≤ 20))) rfl) rfl ?_
      refine wl_nil ?_
      refine hK60 _ _ ?_
      refine w_ret ?_
      exact ret1 rfl (by decide) ⟨congrArg Value.bool ((so_good (k := k) (by omega) ht).trans (decide_eq_decide.2 (by omega))).symm, toExt hB1⟩
theorem implStaysOk_fn {lo hi : Nat} {a : Option Addr} {c : Nat} {xs : List Stay} {w : World} (hx : Cells lo hi w a (xs.flatMap stC)) (hhi : hi ≤ w.heap.size) (hl : xs.length ≤ 1099511627776) :
    Fn Try.prog 17 #[.slice a (xs.length) (c)] w (RetV w (.bool (staysOk xs))) := by
  refine fn_of_wp Try.func17 rfl (by kernel_rfl) (Nat.le_of_ble_eq_true rfl) ?_
  have hB0 := Below.refl w.heap.size w
  have hz0 := hB0.size
  refine w_seq fun K1 hK1 => ?_
  refine w_region ?_
  refine wl_val (g_assign (v := .bool (false)) rfl) rfl ?_
  refine wl_nil ?_
  refine hK1 _ _ ?_
  refine w_seq fun K2 hK2 => ?_
  refine w_seq fun K3 hK3 => ?_
  refine w_region ?_
  refine wl_val (g_move (v := .slice a (xs.length) (c)) rfl) rfl ?_
  refine wl_val (g_len' (a := a) (l := (xs.length)) (c := c) SL30 rfl) rfl ?_
  refine wl_val (g_move (v := .int .i64 (0)) rfl) rfl ?_
  refine wl_nil ?_
  refine hK3 _ _ ?_
  refine w_block ?_
  refine w_for (σ := Nat) (fun k => [(0, .slice a (xs.length) (c)), (5, .slice a (xs.length) (c)), (6, .int .i64 (((xs.length : Nat) : Int))), (7, .int .i64 (((k : Nat) : Int)))]) (fun k w' => (k ≤ xs.length) ∧ ((xs.take k).all okS = true) ∧ (Below w.heap.size w w')) (fun k => xs.length - k) (0) ⟨rfl, rfl, rfl, rfl, trivial⟩ ?_ ?_
  · exact ⟨Nat.zero_le _, rfl, hB0⟩
  · rintro k b6 w4 ⟨hk, ht, hB1⟩
    show Wp _ _ _ _ (upds b6 [(0, .slice a (xs.length) (c)), (5, .slice a (xs.length) (c)), (6, .int .i64 (((xs.length : Nat) : Int))), (7, .int .i64 (((k : Nat) : Int)))]) w4
    have hB1z := hB1.size
    refine w_seq fun K7 hK7 => ?_
    refine w_region ?_
    refine wl_val (g_lss (a := ((k : Nat) : Int)) (b := ((xs.length : Nat) : Int)) rfl rfl) rfl ?_
    refine wl_nil ?_
    refine hK7 _ _ ?_
    refine w_seq fun K8 hK8 => ?_
    refine w_cond_d (p := ((k : Nat) : Int) < ((xs.length : Nat) : Int)) rfl (fun h9 => ?_) (fun h9 => ?_)
    · refine w_skip ?_
      refine hK8 _ _ ?_
      refine w_seq fun K10 hK10 => ?_
      refine w_block ?_
      refine w_seq fun K11 hK11 => ?_
      refine w_region ?_
      refine wl_val (g_index (a := a) (l := (xs.length)) (c := c) (i := ((k : Nat) : Int)) SL30 rfl rfl (Stay_some (i := ((k : Nat) : Int)) (Cells.below hx hB1 (by omega)) (by omega) (by omega)) (by omega) (by omega)) rfl ?_
      refine wl_val (g_loadS (q := (adr a).add (k * 3)) (cs := [.int .i64 (xs[k]!.1), .int .i64 (xs[k]!.2.1), .int .i64 (xs[k]!.2.2)]) AG42 rfl (Stay_all (i := ((k : Nat) : Int)) (Cells.below hx hB1 (by omega)) (by omega) (by omega))) rfl ?_
      refine wl_step rfl (g_alloc (cs := #[.int .i64 (0), .int .i64 (0), .int .i64 (0)]) ZR42 rfl) ?_
      rintro _ w12 ⟨g13, rfl, hg14, hb15, hE16⟩
      have hs17 := hE16.size
      have hB18 := Ext.below hB1 hE16 (by omega)
      have hz19 := hB18.size
      refine wl_step rfl (g_storeB (g := g13) (k := 0) (bs := #[.int .i64 (0), .int .i64 (0), .int .i64 (0)]) (bs' := #[.int .i64 (xs[k]!.1), .int .i64 (xs[k]!.2.1), .int .i64 (xs[k]!.2.2)]) (vs := [.int .i64 (xs[k]!.1), .int .i64 (xs[k]!.2.1), .int .i64 (xs[k]!.2.2)]) hb15 AG42.sz rfl rfl rfl (by simp [Value.oneCell']) (Nat.le_of_ble_eq_true rfl) rfl) ?_
      rintro _ w21 ⟨rfl, hb23, hC22⟩
      have hs24 := hC22.size
      have hl25 := hb15.lt
      have hB26 := Chg.below hB18 hC22 (by omega) (fun k hk => by cases hk; omega)
      have hz27 := hB26.size
      refine wl_nil ?_
      refine hK11 _ _ ?_
      refine w_seq fun K28 hK28 => ?_
      refine w_region ?_
      refine wl_val (g_fieldAddr (q := (⟨g13, 0, none⟩ : Addr)) FL42_0 ON3 rfl) rfl ?_
      refine wl_val (g_load1 (q := ((⟨g13, 0, none⟩ : Addr)).add 0) (v := .int .i64 (xs[k]!.1)) ON3 rfl (Blk.at0 (i := 0) hb23 rfl)) rfl ?_
      refine wl_step rfl (g_call (vs := #[.int .i64 (xs[k]!.1), .int .i64 (0), .int .i64 (6)]) CF35 (args3 rfl rfl rfl) (within_fn (xs[k]!.1) 0 6)) ?_
      rintro _ w29 ⟨rfl, hE30⟩
      have hs31 := hE30.size
      have hB32 := Ext.below hB26 hE30 (by omega)
      have hz33 := hB32.size
      have hb34 := hb23.ext hE30
      refine wl_val (g_not (a := (decide (0 ≤ xs[k]!.1 ∧ xs[k]!.1 ≤ 6))) rfl) rfl ?_
      refine wl_val (g_move (v := .bool (!(decide (0 ≤ xs[k]!.1 ∧ xs[k]!.1 ≤ 6)))) rfl) rfl ?_
      refine wl_guard (c := (!(decide (0 ≤ xs[k]!.1 ∧ xs[k]!.1 ≤ 6))) = false) (val := .pointer (some (((⟨g13, 0, none⟩ : Addr)).add 1))) (b := ((!(decide (0 ≤ xs[k]!.1 ∧ xs[k]!.1 ≤ 6))) == false)) (gv_some rfl rfl rfl) beq_iff_eq (fun hg35 => ?_) ?_
      · have hg35p := (fun h => of_decide_eq_true (bf_not h)) hg35
        exact g_fieldAddr (q := (⟨g13, 0, none⟩ : Addr)) FL42_1 ON3 rfl
      refine wl_guard (c := (!(decide (0 ≤ xs[k]!.1 ∧ xs[k]!.1 ≤ 6))) = false) (val := .int .i64 (xs[k]!.2.1)) (b := ((!(decide (0 ≤ xs[k]!.1 ∧ xs[k]!.1 ≤ 6))) == false)) (gv_some rfl rfl rfl) beq_iff_eq (fun hg36 => ?_) ?_
      · have hg36p := (fun h => of_decide_eq_true (bf_not h)) hg36
        exact g_load1 (q := ((⟨g13, 0, none⟩ : Addr)).add 1) (v := .int .i64 (xs[k]!.2.1)) ON3 (if_pos hg36) (Blk.at0 (i := 1) hb34 rfl)
      refine wl_guard (c := (!(decide (0 ≤ xs[k]!.1 ∧ xs[k]!.1 ≤ 6))) = false) (val := .bool (decide (xs[k]!.2.1 < 0))) (b := ((!(decide (0 ≤ xs[k]!.1 ∧ xs[k]!.1 ≤ 6))) == false)) (gv_some rfl rfl rfl) beq_iff_eq (fun hg37 => ?_) ?_
      · have hg37p := (fun h => of_decide_eq_true (bf_not h)) hg37
        exact g_lss (a := xs[k]!.2.1) (b := 0) (if_pos hg37) rfl
      refine wl_val (g_pick (b := (!(decide (0 ≤ xs[k]!.1 ∧ xs[k]!.1 ≤ 6)))) (v := .bool (!(decide (0 ≤ xs[k]!.1 ∧ xs[k]!.1 ≤ 6)) || decide (xs[k]!.2.1 < 0))) rfl (fun h => by rw [h]; rfl) (fun h => by show (if _ then _ else _ : Value) = _; rw [if_pos h, h]; rfl)) rfl ?_
      refine wl_val (g_move (v := .bool ((!(decide (0 ≤ xs[k]!.1 ∧ xs[k]!.1 ≤ 6)) || decide (xs[k]!.2.1 < 0)))) rfl) rfl ?_
      refine wl_guard (c := ((!(decide (0 ≤ xs[k]!.1 ∧ xs[k]!.1 ≤ 6)) || decide (xs[k]!.2.1 < 0))) = false) (val := .pointer (some (((⟨g13, 0, none⟩ : Addr)).add 1))) (b := (((!(decide (0 ≤ xs[k]!.1 ∧ xs[k]!.1 ≤ 6)) || decide (xs[k]!.2.1 < 0))) == false)) (gv_some rfl rfl rfl) beq_iff_eq (fun hg38 => ?_) ?_
      · have hg38p := (fun h => And.imp (fun h => of_decide_eq_true (bf_not h)) of_decide_eq_false (bf_or h)) hg38
        exact g_fieldAddr (q := (⟨g13, 0, none⟩ : Addr)) FL42_1 ON3 rfl
      refine wl_guard (c := ((!(decide (0 ≤ xs[k]!.1 ∧ xs[k]!.1 ≤ 6)) || decide (xs[k]!.2.1 < 0))) = false) (val := .int .i64 (xs[k]!.2.1)) (b := (((!(decide (0 ≤ xs[k]!.1 ∧ xs[k]!.1 ≤ 6)) || decide (xs[k]!.2.1 < 0))) == false)) (gv_some rfl rfl rfl) beq_iff_eq (fun hg39 => ?_) ?_
      · have hg39p := (fun h => And.imp (fun h => of_decide_eq_true (bf_not h)) of_decide_eq_false (bf_or h)) hg39
        exact g_load1 (q := ((⟨g13, 0, none⟩ : Addr)).add 1) (v := .int .i64 (xs[k]!.2.1)) ON3 (if_pos hg39) (Blk.at0 (i := 1) hb34 rfl)
      refine wl_guard (c := ((!(decide (0 ≤ xs[k]!.1 ∧ xs[k]!.1 ≤ 6)) || decide (xs[k]!.2.1 < 0))) = false) (val := .pointer (some (((⟨g13, 0, none⟩ : Addr)).add 2))) (b := (((!(decide (0 ≤ xs[k]!.1 ∧ xs[k]!.1 ≤ 6)) || decide (xs[k]!.2.1 < 0))) == false)) (gv_some rfl rfl rfl) beq_iff_eq (fun hg40 => ?_) ?_
      · have hg40p := (fun h => And.imp (fun h => of_decide_eq_true (bf_not h)) of_decide_eq_false (bf_or h)) hg40
        exact g_fieldAddr (q := (⟨g13, 0, none⟩ : Addr)) FL42_2 ON3 rfl
      refine wl_guard (c := ((!(decide (0 ≤ xs[k]!.1 ∧ xs[k]!.1 ≤ 6)) || decide (xs[k]!.2.1 < 0))) = false) (val := .int .i64 (xs[k]!.2.2)) (b := (((!(decide (0 ≤ xs[k]!.1 ∧ xs[k]!.1 ≤ 6)) || decide (xs[k]!.2.1 < 0))) == false)) (gv_some rfl rfl rfl) beq_iff_eq (fun hg41 => ?_) ?_
      · have hg41p := (fun h => And.imp (fun h => of_decide_eq_true (bf_not h)) of_decide_eq_false (bf_or h)) hg41
        exact g_load1 (q := ((⟨g13, 0, none⟩ : Addr)).add 2) (v := .int .i64 (xs[k]!.2.2)) ON3 (if_pos hg41) (Blk.at0 (i := 2) hb34 rfl)
      refine wl_guard (c := ((!(decide (0 ≤ xs[k]!.1 ∧ xs[k]!.1 ≤ 6)) || decide (xs[k]!.2.1 < 0))) = false) (val := .bool (decide (xs[k]!.2.1 ≥ xs[k]!.2.2))) (b := (((!(decide (0 ≤ xs[k]!.1 ∧ xs[k]!.1 ≤ 6)) || decide (xs[k]!.2.1 < 0))) == false)) (gv_some rfl rfl rfl) beq_iff_eq (fun hg42 => ?_) ?_
      · have hg42p := (fun h => And.imp (fun h => of_decide_eq_true (bf_not h)) of_decide_eq_false (bf_or h)) hg42
        exact g_geq (a := xs[k]!.2.1) (b := xs[k]!.2.2) (if_pos hg42) (if_pos hg42)
      refine wl_val (g_pick (b := ((!(decide (0 ≤ xs[k]!.1 ∧ xs[k]!.1 ≤ 6)) || decide (xs[k]!.2.1 < 0)))) (v := .bool ((!(decide (0 ≤ xs[k]!.1 ∧ xs[k]!.1 ≤ 6)) || decide (xs[k]!.2.1 < 0)) || decide (xs[k]!.2.1 ≥ xs[k]!.2.2))) rfl (fun h => by rw [h]; rfl) (fun h => by show (if _ then _ else _ : Value) = _; rw [if_pos h, h]; rfl)) rfl ?_
      refine wl_val (g_move (v := .bool (((!(decide (0 ≤ xs[k]!.1 ∧ xs[k]!.1 ≤ 6)) || decide (xs[k]!.2.1 < 0)) || decide (xs[k]!.2.1 ≥ xs[k]!.2.2)))) rfl) rfl ?_
      refine wl_guard (c := (((!(decide (0 ≤ xs[k]!.1 ∧ xs[k]!.1 ≤ 6)) || decide (xs[k]!.2.1 < 0)) || decide (xs[k]!.2.1 ≥ xs[k]!.2.2))) = false) (val := .pointer (some (((⟨g13, 0, none⟩ : Addr)).add 2))) (b := ((((!(decide (0 ≤ xs[k]!.1 ∧ xs[k]!.1 ≤ 6)) || decide (xs[k]!.2.1 < 0)) || decide (xs[k]!.2.1 ≥ xs[k]!.2.2))) == false)) (gv_some rfl rfl rfl) beq_iff_eq (fun hg43 => ?_) ?_
      · have hg43p := (fun h => And.imp (fun h => And.imp (fun h => of_decide_eq_true (bf_not h)) of_decide_eq_false (bf_or h)) of_decide_eq_false (bf_or h)) hg43
        exact g_fieldAddr (q := (⟨g13, 0, none⟩ : Addr)) FL42_2 ON3 rfl
      refine wl_guard (c := (((!(decide (0 ≤ xs[k]!.1 ∧ xs[k]!.1 ≤ 6)) || decide (xs[k]!.2.1 < 0)) || decide (xs[k]!.2.1 ≥ xs[k]!.2.2))) = false) (val := .int .i64 (xs[k]!.2.2)) (b := ((((!(decide (0 ≤ xs[k]!.1 ∧ xs[k]!.1 ≤ 6)) || decide (xs[k]!.2.1 < 0)) || decide (xs[k]!.2.1 ≥ xs[k]!.2.2))) == false)) (gv_some rfl rfl rfl) beq_iff_eq (fun hg44 => ?_) ?_
      · have hg44p := (fun h => And.imp (fun h => And.imp (fun h => of_decide_eq_true (bf_not h)) of_decide_eq_false (bf_or h)) of_decide_eq_false (bf_or h)) hg44
        exact g_load1 (q := ((⟨g13, 0, none⟩ : Addr)).add 2) (v := .int .i64 (xs[k]!.2.2)) ON3 (if_pos hg44) (Blk.at0 (i := 2) hb34 rfl)
      refine wl_guard (c := (((!(decide (0 ≤ xs[k]!.1 ∧ xs[k]!.1 ≤ 6)) || decide (xs[k]!.2.1 < 0)) || decide (xs[k]!.2.1 ≥ xs[k]!.2.2))) = false) (val := .bool (decide (xs[k]!.2.2 > 1000))) (b := ((((!(decide (0 ≤ xs[k]!.1 ∧ xs[k]!.1 ≤ 6)) || decide (xs[k]!.2.1 < 0)) || decide (xs[k]!.2.1 ≥ xs[k]!.2.2))) == false)) (gv_some rfl rfl rfl) beq_iff_eq (fun hg45 => ?_) ?_
      · have hg45p := (fun h => And.imp (fun h => And.imp (fun h => of_decide_eq_true (bf_not h)) of_decide_eq_false (bf_or h)) of_decide_eq_false (bf_or h)) hg45
        exact g_gtr (a := xs[k]!.2.2) (b := 1000) (if_pos hg45) rfl
      refine wl_val (g_pick (b := (((!(decide (0 ≤ xs[k]!.1 ∧ xs[k]!.1 ≤ 6)) || decide (xs[k]!.2.1 < 0)) || decide (xs[k]!.2.1 ≥ xs[k]!.2.2)))) (v := .bool (((!(decide (0 ≤ xs[k]!.1 ∧ xs[k]!.1 ≤ 6)) || decide (xs[k]!.2.1 < 0)) || decide (xs[k]!.2.1 ≥ xs[k]!.2.2)) || decide (xs[k]!.2.2 > 1000))) rfl (fun h => by rw [h]; rfl) (fun h => by show (if _ then _ else _ : Value) = _; rw [if_pos h, h]; rfl)) rfl ?_
      refine wl_nil ?_
      refine hK28 _ _ ?_
      refine w_cond (b := ((((!(decide (0 ≤ xs[k]!.1 ∧ xs[k]!.1 ≤ 6)) || decide (xs[k]!.2.1 < 0)) || decide (xs[k]!.2.1 ≥ xs[k]!.2.2)) || decide (xs[k]!.2.2 > 1000)))) rfl (fun h46 => ?_) (fun h46 => ?_)
      · replace h46 := (fun h => Or.imp (fun h => Or.imp (fun h => Or.imp (fun h => of_decide_eq_false (bt_not h)) of_decide_eq_true (bt_or h)) of_decide_eq_true (bt_or h)) of_decide_eq_true (bt_or h)) h46
        refine w_seq fun K47 hK47 => ?_
        refine w_region ?_
        refine wl_val (g_assign (v := .bool (false)) rfl) rfl ?_
        refine wl_nil ?_
        refine hK47 _ _ ?_
        refine w_ret ?_
        exact ret1 rfl (by decide) ⟨congrArg Value.bool (so_bad (k := k) (by omega) (by rw [okS_iff]; omega)).symm, toExt hB32⟩
      · replace h46 := (fun h => And.imp (fun h => And.imp (fun h => And.imp (fun h => of_decide_eq_true (bf_not h)) of_decide_eq_false (bf_or h)) of_decide_eq_false (bf_or h)) of_decide_eq_false (bf_or h)) h46
        refine w_skip ?_
        refine hK10 _ _ ?_
        refine w_region ?_
        refine wl_val (g_add (a := ((k : Nat) : Int)) (b := 1) rfl rfl ⟨by omega, by omega⟩) rfl ?_
        refine wl_val (g_move (v := .int .i64 ((((k : Nat) : Int) + 1))) rfl) rfl ?_
        refine wl_nil ?_
        exact ⟨(k + 1), (by first | omega | (dsimp only; omega)), ⟨rfl, rfl, rfl, rfl, trivial⟩, ⟨by omega, so_step (by omega) ht (by rw [okS_iff]; omega), hB32⟩⟩
    · refine w_exit ?_
      refine hK2 _ _ ?_
      refine w_seq fun K48 hK48 => ?_
      refine w_region ?_
      refine wl_val (g_move (v := .slice a (xs.length) (c)) rfl) rfl ?_
      refine wl_val (g_len' (a := a) (l := (xs.length)) (c := c) SL30 rfl) rfl ?_
      refine wl_val (g_leq (a := ((xs.length : Nat) : Int)) (b := 20) rfl rfl) rfl ?_
      refine wl_val (g_assign (v := .bool (decide (((xs.length : Nat) : Int) ≤ 20))) rfl) rfl ?_
      refine wl_nil ?_
      refine hK48 _ _ ?_
      refine w_ret ?_
      exact ret1 rfl (by decide) ⟨congrArg Value.bool ((so_good (k := k) (by omega) ht).trans (decide_eq_decide.2 (by omega))).symm, toExt hB1⟩
theorem at_fn {lo hi : Nat} {a : Option Addr} {c : Nat} {xs : List Stay} (t : Int) {w : World} (hx : Cells lo hi w a (xs.flatMap stC)) (hhi : hi ≤ w.heap.size) (hl : xs.length ≤ 1099511627776) :
    Fn Try.prog 37 #[.slice a (xs.length) (c), .int .i64 (t)] w (RetV w (.int .i64 ((atN xs t : Nat) : Int))) := by
  refine fn_of_wp Try.func37 rfl (by kernel_rfl) (Nat.le_of_ble_eq_true rfl) ?_
  have hB0 := Below.refl w.heap.size w
  have hz0 := hB0.size
  refine w_seq fun K1 hK1 => ?_
  refine w_region ?_
  refine wl_val (g_assign (v := .int .i64 (0)) rfl) rfl ?_
  refine wl_nil ?_
  refine hK1 _ _ ?_
  refine w_seq fun K2 hK2 => ?_
  refine w_region ?_
  refine wl_val (g_assign (v := .int .i64 (0)) rfl) rfl ?_
  refine wl_nil ?_
  refine hK2 _ _ ?_
  refine w_seq fun K3 hK3 => ?_
  refine w_seq fun K4 hK4 => ?_
  refine w_region ?_
  refine wl_val (g_assign (v := .int .i64 (0)) rfl) rfl ?_
  refine wl_nil ?_
  refine hK4 _ _ ?_
  refine w_block ?_
  refine w_for (σ := Nat) (fun k => [(0, .slice a (xs.length) (c)), (1, .int .i64 (t)), (5, .int .i64 (((atN (xs.take k) t : Nat) : Int))), (6, .int .i64 (((k : Nat) : Int)))]) (fun k w' => (k ≤ xs.length) ∧ (Hid (atN (xs.take k) t ≤ k)) ∧ (Below w.heap.size w w')) (fun k => xs.length - k) (0) ⟨rfl, rfl, rfl, rfl, trivial⟩ ?_ ?_
  · exact ⟨Nat.zero_le _, Nat.le_refl _, hB0⟩
  · rintro k b7 w5 ⟨hk, hb, hB1⟩
    show Wp _ _ _ _ (upds b7 [(0, .slice a (xs.length) (c)), (1, .int .i64 (t)), (5, .int .i64 (((atN (xs.take k) t : Nat) : Int))), (6, .int .i64 (((k : Nat) : Int)))]) w5
    have hB1z := hB1.size
    have hb2 := hb.out
    refine w_seq fun K8 hK8 => ?_
    refine w_seq fun K9 hK9 => ?_
    refine w_region ?_
    refine wl_val (g_move (v := .int .i64 (((k : Nat) : Int))) rfl) rfl ?_
    refine wl_val (g_move (v := .slice a (xs.length) (c)) rfl) rfl ?_
    refine wl_val (g_len' (a := a) (l := (xs.length)) (c := c) SL30 rfl) rfl ?_
    refine wl_val (g_lss (a := ((k : Nat) : Int)) (b := ((xs.length : Nat) : Int)) rfl rfl) rfl ?_
    refine wl_nil ?_
    refine hK9 _ _ ?_
    refine w_cond_d (p := ((k : Nat) : Int) < ((xs.length : Nat) : Int)) rfl (fun h10 => ?_) (fun h10 => ?_)
    · refine w_skip ?_
      refine hK8 _ _ ?_
      refine w_seq fun K11 hK11 => ?_
      refine w_block ?_
      refine w_seq fun K12 hK12 => ?_
      refine w_region ?_
      refine wl_val (g_move (v := .slice a (xs.length) (c)) rfl) rfl ?_
      refine wl_val (g_move (v := .int .i64 (((k : Nat) : Int))) rfl) rfl ?_
      refine wl_val (g_index (a := a) (l := (xs.length)) (c := c) (i := ((k : Nat) : Int)) SL30 rfl rfl (Stay_some (i := ((k : Nat) : Int)) (Cells.below hx hB1 (by omega)) (by omega) (by omega)) (by omega) (by omega)) rfl ?_
      refine wl_val (g_fieldAddr (q := (adr a).add (k * 3)) FL42_1 ON3 rfl) rfl ?_
      refine wl_val (g_load1 (q := ((adr a).add (k * 3)).add 1) (v := .int .i64 (xs[k]!.2.1)) ON3 rfl (Stay_c1 (i := ((k : Nat) : Int)) (Cells.below hx hB1 (by omega)) (by omega) (by omega))) rfl ?_
      refine wl_val (g_move (v := .int .i64 (t)) rfl) rfl ?_
      refine wl_val (g_leq (a := xs[k]!.2.1) (b := t) rfl rfl) rfl ?_
      refine wl_val (g_move (v := .bool (decide (xs[k]!.2.1 ≤ t))) rfl) rfl ?_
      refine wl_guard (c := (decide (xs[k]!.2.1 ≤ t)) = true) (val := .int .i64 (t)) (b := ((decide (xs[k]!.2.1 ≤ t)) == true)) (gv_some rfl rfl rfl) beq_iff_eq (fun hg13 => ?_) ?_
      · have hg13p := of_decide_eq_true hg13
        exact g_move (v := .int .i64 (t)) rfl
      refine wl_guard (c := (decide (xs[k]!.2.1 ≤ t)) = true) (val := .slice a (xs.length) (c)) (b := ((decide (xs[k]!.2.1 ≤ t)) == true)) (gv_some rfl rfl rfl) beq_iff_eq (fun hg14 => ?_) ?_
      · have hg14p := of_decide_eq_true hg14
        exact g_move (v := .slice a (xs.length) (c)) rfl
      refine wl_guard (c := (decide (xs[k]!.2.1 ≤ t)) = true) (val := .int .i64 (((k : Nat) : Int))) (b := ((decide (xs[k]!.2.1 ≤ t)) == true)) (gv_some rfl rfl rfl) beq_iff_eq (fun hg15 => ?_) ?_
      · have hg15p := of_decide_eq_true hg15
        exact g_move (v := .int .i64 (((k : Nat) : Int))) rfl
      refine wl_guard (c := (decide (xs[k]!.2.1 ≤ t)) = true) (val := .pointer (some ((adr a).add (k * 3)))) (b := ((decide (xs[k]!.2.1 ≤ t)) == true)) (gv_some rfl rfl rfl) beq_iff_eq (fun hg16 => ?_) ?_
      · have hg16p := of_decide_eq_true hg16
        exact g_index (a := a) (l := (xs.length)) (c := c) (i := ((k : Nat) : Int)) SL30 (if_pos hg16) (if_pos hg16) (Stay_some (i := ((k : Nat) : Int)) (Cells.below hx hB1 (by omega)) (by omega) (by omega)) (by omega) (by omega)
      refine wl_guard (c := (decide (xs[k]!.2.1 ≤ t)) = true) (val := .pointer (some (((adr a).add (k * 3)).add 2))) (b := ((decide (xs[k]!.2.1 ≤ t)) == true)) (gv_some rfl rfl rfl) beq_iff_eq (fun hg17 => ?_) ?_
      · have hg17p := of_decide_eq_true hg17
        exact g_fieldAddr (q := (adr a).add (k * 3)) FL42_2 ON3 (if_pos hg17)
      refine wl_guard (c := (decide (xs[k]!.2.1 ≤ t)) = true) (val := .int .i64 (xs[k]!.2.2)) (b := ((decide (xs[k]!.2.1 ≤ t)) == true)) (gv_some rfl rfl rfl) beq_iff_eq (fun hg18 => ?_) ?_
      · have hg18p := of_decide_eq_true hg18
        exact g_load1 (q := ((adr a).add (k * 3)).add 2) (v := .int .i64 (xs[k]!.2.2)) ON3 (if_pos hg18) (Stay_c2 (i := ((k : Nat) : Int)) (Cells.below hx hB1 (by omega)) (by omega) (by omega))
      refine wl_guard (c := (decide (xs[k]!.2.1 ≤ t)) = true) (val := .bool (decide (t < xs[k]!.2.2))) (b := ((decide (xs[k]!.2.1 ≤ t)) == true)) (gv_some rfl rfl rfl) beq_iff_eq (fun hg19 => ?_) ?_
      · have hg19p := of_decide_eq_true hg19
        exact g_lss (a := t) (b := xs[k]!.2.2) (if_pos hg19) (if_pos hg19)
      refine wl_val (g_pick (b := (decide (xs[k]!.2.1 ≤ t))) (v := .bool (decide (xs[k]!.2.1 ≤ t) && decide (t < xs[k]!.2.2))) rfl (fun h => by simp only [ev]; first | (show (if _ then _ else _ : Value) = _; rw [if_pos h, h]; rfl)) (fun h => by rw [h]; rfl)) rfl ?_
      refine wl_nil ?_
      refine hK12 _ _ ?_
      refine w_cond (b := ((decide (xs[k]!.2.1 ≤ t) && decide (t < xs[k]!.2.2)))) rfl (fun h20 => ?_) (fun h20 => ?_)
      · replace h20 := (fun h => And.imp of_decide_eq_true of_decide_eq_true (bt_and h)) h20
        refine w_region ?_
        refine wl_val (g_move (v := .int .i64 (((atN (xs.take k) t : Nat) : Int))) rfl) rfl ?_
        refine wl_val (g_add (a := ((atN (xs.take k) t : Nat) : Int)) (b := 1) rfl rfl ⟨by omega, by omega⟩) rfl ?_
        refine wl_val (g_assign (v := .int .i64 ((((atN (xs.take k) t : Nat) : Int) + 1))) rfl) rfl ?_
        refine wl_nil ?_
        refine hK11 _ _ ?_
        refine w_region ?_
        refine wl_val (g_move (v := .int .i64 (((k : Nat) : Int))) rfl) rfl ?_
        refine wl_val (g_add (a := ((k : Nat) : Int)) (b := 1) rfl rfl ⟨by omega, by omega⟩) rfl ?_
        refine wl_val (g_assign (v := .int .i64 ((((k : Nat) : Int) + 1))) rfl) rfl ?_
        refine wl_nil ?_
        exact ⟨(k + 1), (by first | omega | (dsimp only; omega)), ⟨rfl, rfl, congrArg (Value.int .i64) (at_yes (by omega) h20), rfl, trivial⟩, ⟨by omega, Nat.le_trans (at_le _ _) (by simp; omega), hB1⟩⟩
      · replace h20 := (fun h => Or.imp of_decide_eq_false of_decide_eq_false (bf_and h)) h20
        refine w_skip ?_
        refine hK11 _ _ ?_
        refine w_region ?_
        refine wl_val (g_move (v := .int .i64 (((k : Nat) : Int))) rfl) rfl ?_
        refine wl_val (g_add (a := ((k : Nat) : Int)) (b := 1) rfl rfl ⟨by omega, by omega⟩) rfl ?_
        refine wl_val (g_assign (v := .int .i64 ((((k : Nat) : Int) + 1))) rfl) rfl ?_
        refine wl_nil ?_
        exact ⟨(k + 1), (by first | omega | (dsimp only; omega)), ⟨rfl, rfl, congrArg (Value.int .i64) (at_no (by omega) (by omega)), rfl, trivial⟩, ⟨by omega, Nat.le_trans (at_le _ _) (by simp; omega), hB1⟩⟩
    · refine w_exit ?_
      refine hK3 _ _ ?_
      refine w_seq fun K21 hK21 => ?_
      refine w_region ?_
      refine wl_val (g_move (v := .int .i64 (((atN (xs.take k) t : Nat) : Int))) rfl) rfl ?_
      refine wl_val (g_assign (v := .int .i64 (((atN (xs.take k) t : Nat) : Int))) rfl) rfl ?_
      refine wl_nil ?_
      refine hK21 _ _ ?_
      refine w_ret ?_
      exact ret1 rfl (by decide) ⟨congrArg (fun x : Nat => Value.int .i64 x) (at_all (by omega)), toExt hB1⟩
theorem specMost_fn {lo hi : Nat} {a : Option Addr} {c : Nat} {xs : List Stay} {w : World} (hx : Cells lo hi w a (xs.flatMap stC)) (hhi : hi ≤ w.heap.size) (hl : xs.length ≤ 1099511627776) :
    Fn Try.prog 19 #[.slice a (xs.length) (c)] w (RetV w (.int .i64 (mostAtOnce xs))) := by
  refine fn_of_wp Try.func19 rfl (by kernel_rfl) (Nat.le_of_ble_eq_true rfl) ?_
  have hB0 := Below.refl w.heap.size w
  have hz0 := hB0.size
  refine w_seq fun K1 hK1 => ?_
  refine w_region ?_
  refine wl_val (g_assign (v := .int .i64 (0)) rfl) rfl ?_
  refine wl_nil ?_
  refine hK1 _ _ ?_
  refine w_seq fun K2 hK2 => ?_
  refine w_seq fun K3 hK3 => ?_
  refine w_region ?_
  refine wl_val (g_move (v := .slice a (xs.length) (c)) rfl) rfl ?_
  refine wl_step rfl (g_call (vs := #[.slice a (xs.length) (c)]) CF15 (args1 rfl) (specStaysOk_fn (Cells.below hx hB0 (by omega)) (by omega) (by omega))) ?_
  rintro _ w4 ⟨rfl, hE5⟩
  have hs6 := hE5.size
  have hB7 := Ext.below hB0 hE5 (by omega)
  have hz8 := hB7.size
  refine wl_val (g_not (a := ((staysOk xs))) rfl) rfl ?_
  refine wl_nil ?_
  refine hK3 _ _ ?_
  refine w_cond (b := (!((staysOk xs)))) rfl (fun h9 => ?_) (fun h9 => ?_)
  · replace h9 := bt_not h9
    refine w_seq fun K10 hK10 => ?_
    refine w_region ?_
    refine wl_val (g_assign (v := .int .i64 ((-1))) rfl) rfl ?_
    refine wl_nil ?_
    refine hK10 _ _ ?_
    refine w_ret ?_
    exact ret1 rfl (by decide) ⟨congrArg (Value.int .i64) (mao_bad h9).symm, toExt hB7⟩
  · replace h9 := bf_not h9
    refine w_skip ?_
    refine hK2 _ _ ?_
    refine w_seq fun K11 hK11 => ?_
    refine w_region ?_
    refine wl_val (g_assign (v := .int .i64 (0)) rfl) rfl ?_
    refine wl_nil ?_
    refine hK11 _ _ ?_
    refine w_seq fun K12 hK12 => ?_
    refine w_seq fun K13 hK13 => ?_
    refine w_region ?_
    refine wl_val (g_assign (v := .int .i64 (0)) rfl) rfl ?_
    refine wl_nil ?_
    refine hK13 _ _ ?_
    refine w_block ?_
    refine w_for (σ := Nat) (fun k => [(0, .slice a (xs.length) (c)), (3, .int .i64 ((maoT xs (xs.take k)))), (4, .int .i64 (((k : Nat) : Int)))]) (fun k w' => (k ≤ xs.length) ∧ (Below w.heap.size w w')) (fun k => xs.length - k) (0) ⟨rfl, rfl, rfl, trivial⟩ ?_ ?_
    · exact ⟨Nat.zero_le _, hB7⟩
    · rintro k b16 w14 ⟨hk, hB1⟩
      show Wp _ _ _ _ (upds b16 [(0, .slice a (xs.length) (c)), (3, .int .i64 ((maoT xs (xs.take k)))), (4, .int .i64 (((k : Nat) : Int)))]) w14
      have hB1z := hB1.size
      refine w_seq fun K17 hK17 => ?_
      refine w_seq fun K18 hK18 => ?_
      refine w_region ?_
      refine wl_val (g_move (v := .int .i64 (((k : Nat) : Int))) rfl) rfl ?_
      refine wl_val (g_move (v := .slice a (xs.length) (c)) rfl) rfl ?_
      refine wl_val (g_len' (a := a) (l := (xs.length)) (c := c) SL30 rfl) rfl ?_
      refine wl_val (g_lss (a := ((k : Nat) : Int)) (b := ((xs.length : Nat) : Int)) rfl rfl) rfl ?_
      refine wl_nil ?_
      refine hK18 _ _ ?_
      refine w_cond_d (p := ((k : Nat) : Int) < ((xs.length : Nat) : Int)) rfl (fun h19 => ?_) (fun h19 => ?_)
      · refine w_skip ?_
        refine hK17 _ _ ?_
        refine w_seq fun K20 hK20 => ?_
        refine w_block ?_
        refine w_region ?_
        refine wl_val (g_move (v := .int .i64 ((maoT xs (xs.take k)))) rfl) rfl ?_
        refine wl_val (g_move (v := .slice a (xs.length) (c)) rfl) rfl ?_
        refine wl_val (g_move (v := .slice a (xs.length) (c)) rfl) rfl ?_
        refine wl_val (g_move (v := .int .i64 (((k : Nat) : Int))) rfl) rfl ?_
        refine wl_val (g_index (a := a) (l := (xs.length)) (c := c) (i := ((k : Nat) : Int)) SL30 rfl rfl (Stay_some (i := ((k : Nat) : Int)) (Cells.below hx hB1 (by omega)) (by omega) (by omega)) (by omega) (by omega)) rfl ?_
        refine wl_val (g_fieldAddr (q := (adr a).add (k * 3)) FL42_1 ON3 rfl) rfl ?_
        refine wl_val (g_load1 (q := ((adr a).add (k * 3)).add 1) (v := .int .i64 (xs[k]!.2.1)) ON3 rfl (Stay_c1 (i := ((k : Nat) : Int)) (Cells.below hx hB1 (by omega)) (by omega) (by omega))) rfl ?_
        refine wl_step rfl (g_call (vs := #[.slice a (xs.length) (c), .int .i64 (xs[k]!.2.1)]) CF37 (args2 rfl rfl) (at_fn (xs[k]!.2.1) (Cells.below hx hB1 (by omega)) (by omega) (by omega))) ?_
        rintro _ w21 ⟨rfl, hE22⟩
        have hs23 := hE22.size
        have hB24 := Ext.below hB1 hE22 (by omega)
        have hz25 := hB24.size
        refine wl_val (g_max (a := (maoT xs (xs.take k))) (b := ((atN xs (xs[k]!.2.1) : Nat) : Int)) rfl rfl) rfl ?_
        refine wl_val (g_assign (v := .int .i64 ((max ((maoT xs (xs.take k))) (((atN xs (xs[k]!.2.1) : Nat) : Int))))) rfl) rfl ?_
        refine wl_nil ?_
        refine hK20 _ _ ?_
        refine w_region ?_
        refine wl_val (g_move (v := .int .i64 (((k : Nat) : Int))) rfl) rfl ?_
        refine wl_val (g_add (a := ((k : Nat) : Int)) (b := 1) rfl rfl ⟨by omega, by omega⟩) rfl ?_
        refine wl_val (g_assign (v := .int .i64 ((((k : Nat) : Int) + 1))) rfl) rfl ?_
        refine wl_nil ?_
        exact ⟨(k + 1), (by first | omega | (dsimp only; omega)), ⟨rfl, congrArg (Value.int .i64) (mao_step (by omega)), rfl, trivial⟩, ⟨by omega, hB24⟩⟩
      · refine w_exit ?_
        refine hK12 _ _ ?_
        refine w_seq fun K26 hK26 => ?_
        refine w_region ?_
        refine wl_val (g_move (v := .int .i64 ((maoT xs (xs.take k)))) rfl) rfl ?_
        refine wl_val (g_assign (v := .int .i64 ((maoT xs (xs.take k)))) rfl) rfl ?_
        refine wl_nil ?_
        refine hK26 _ _ ?_
        refine w_ret ?_
        exact ret1 rfl (by decide) ⟨congrArg (Value.int .i64) (mao_good h9 (k := k) (by omega)).symm, toExt hB1⟩
theorem implMost_fn {lo hi : Nat} {a : Option Addr} {c : Nat} {xs : List Stay} {w : World} (hx : Cells lo hi w a (xs.flatMap stC)) (hhi : hi ≤ w.heap.size) (hl : xs.length ≤ 1099511627776) :
    Fn Try.prog 20 #[.slice a (xs.length) (c)] w (RetV w (.int .i64 (mostAtOnce xs))) := by
  refine fn_of_wp Try.func20 rfl (by kernel_rfl) (Nat.le_of_ble_eq_true rfl) ?_
  have hB0 := Below.refl w.heap.size w
  have hz0 := hB0.size
  refine w_seq fun K1 hK1 => ?_
  refine w_region ?_
  refine wl_val (g_assign (v := .int .i64 (0)) rfl) rfl ?_
  refine wl_nil ?_
  refine hK1 _ _ ?_
  refine w_seq fun K2 hK2 => ?_
  refine w_seq fun K3 hK3 => ?_
  refine w_region ?_
  refine wl_val (g_move (v := .slice a (xs.length) (c)) rfl) rfl ?_
  refine wl_step rfl (g_call (vs := #[.slice a (xs.length) (c)]) CF17 (args1 rfl) (implStaysOk_fn (Cells.below hx hB0 (by omega)) (by omega) (by omega))) ?_
  rintro _ w4 ⟨rfl, hE5⟩
  have hs6 := hE5.size
  have hB7 := Ext.below hB0 hE5 (by omega)
  have hz8 := hB7.size
  refine wl_val (g_not (a := ((staysOk xs))) rfl) rfl ?_
  refine wl_nil ?_
  refine hK3 _ _ ?_
  refine w_cond (b := (!((staysOk xs)))) rfl (fun h9 => ?_) (fun h9 => ?_)
  · replace h9 := bt_not h9
    refine w_seq fun K10 hK10 => ?_
    refine w_region ?_
    refine wl_val (g_assign (v := .int .i64 ((-1))) rfl) rfl ?_
    refine wl_nil ?_
    refine hK10 _ _ ?_
    refine w_ret ?_
    exact ret1 rfl (by decide) ⟨congrArg (Value.int .i64) (mao_bad h9).symm, toExt hB7⟩
  · replace h9 := bf_not h9
    refine w_skip ?_
    refine hK2 _ _ ?_
    refine w_seq fun K11 hK11 => ?_
    refine w_region ?_
    refine wl_val (g_assign (v := .int .i64 (0)) rfl) rfl ?_
    refine wl_nil ?_
    refine hK11 _ _ ?_
    refine w_seq fun K12 hK12 => ?_
    refine w_seq fun K13 hK13 => ?_
    refine w_region ?_
    refine wl_val (g_move (v := .slice a (xs.length) (c)) rfl) rfl ?_
    refine wl_val (g_len' (a := a) (l := (xs.length)) (c := c) SL30 rfl) rfl ?_
    refine wl_val (g_move (v := .int .i64 (0)) rfl) rfl ?_
    refine wl_nil ?_
    refine hK13 _ _ ?_
    refine w_block ?_
    refine w_for (σ := Nat) (fun k => [(0, .slice a (xs.length) (c)), (3, .int .i64 ((maoT xs (xs.take k)))), (12, .slice a (xs.length) (c)), (13, .int .i64 (((xs.length : Nat) : Int))), (14, .int .i64 (((k : Nat) : Int)))]) (fun k w' => (k ≤ xs.length) ∧ (Below w.heap.size w w')) (fun k => xs.length - k) (0) ⟨rfl, rfl, rfl, rfl, rfl, trivial⟩ ?_ ?_
    · exact ⟨Nat.zero_le _, hB7⟩
    · rintro k b16 w14 ⟨hk, hB1⟩
      show Wp _ _ _ _ (upds b16 [(0, .slice a (xs.length) (c)), (3, .int .i64 ((maoT xs (xs.take k)))), (12, .slice a (xs.length) (c)), (13, .int .i64 (((xs.length : Nat) : Int))), (14, .int .i64 (((k : Nat) : Int)))]) w14
      have hB1z := hB1.size
      refine w_seq fun K17 hK17 => ?_
      refine w_region ?_
      refine wl_val (g_lss (a := ((k : Nat) : Int)) (b := ((xs.length : Nat) : Int)) rfl rfl) rfl ?_
      refine wl_nil ?_
      refine hK17 _ _ ?_
      refine w_seq fun K18 hK18 => ?_
      refine w_cond_d (p := ((k : Nat) : Int) < ((xs.length : Nat) : Int)) rfl (fun h19 => ?_) (fun h19 => ?_)
      · refine w_skip ?_
        refine hK18 _ _ ?_
        refine w_seq fun K20 hK20 => ?_
        refine w_block ?_
        refine w_seq fun K21 hK21 => ?_
        refine w_region ?_
        refine wl_val (g_index (a := a) (l := (xs.length)) (c := c) (i := ((k : Nat) : Int)) SL30 rfl rfl (Stay_some (i := ((k : Nat) : Int)) (Cells.below hx hB1 (by omega)) (by omega) (by omega)) (by omega) (by omega)) rfl ?_
        refine wl_val (g_loadS (q := (adr a).add (k * 3)) (cs := [.int .i64 (xs[k]!.1), .int .i64 (xs[k]!.2.1), .int .i64 (xs[k]!.2.2)]) AG42 rfl (Stay_all (i := ((k : Nat) : Int)) (Cells.below hx hB1 (by omega)) (by omega) (by omega))) rfl ?_
        refine wl_step rfl (g_alloc (cs := #[.int .i64 (0), .int .i64 (0), .int .i64 (0)]) ZR42 rfl) ?_
        rintro _ w22 ⟨g23, rfl, hg24, hb25, hE26⟩
        have hs27 := hE26.size
        have hB28 := Ext.below hB1 hE26 (by omega)
        have hz29 := hB28.size
        refine wl_step rfl (g_storeB (g := g23) (k := 0) (bs := #[.int .i64 (0), .int .i64 (0), .int .i64 (0)]) (bs' := #[.int .i64 (xs[k]!.1), .int .i64 (xs[k]!.2.1), .int .i64 (xs[k]!.2.2)]) (vs := [.int .i64 (xs[k]!.1), .int .i64 (xs[k]!.2.1), .int .i64 (xs[k]!.2.2)]) hb25 AG42.sz rfl rfl rfl (by simp [Value.oneCell']) (Nat.le_of_ble_eq_true rfl) rfl) ?_
        rintro _ w31 ⟨rfl, hb33, hC32⟩
        have hs34 := hC32.size
        have hl35 := hb25.lt
        have hB36 := Chg.below hB28 hC32 (by omega) (fun k hk => by cases hk; omega)
        have hz37 := hB36.size
        refine wl_nil ?_
        refine hK21 _ _ ?_
        refine w_seq fun K38 hK38 => ?_
        refine w_region ?_
        refine wl_val (g_assign (v := .int .i64 (0)) rfl) rfl ?_
        refine wl_nil ?_
        refine hK38 _ _ ?_
        refine w_seq fun K39 hK39 => ?_
        refine w_seq fun K40 hK40 => ?_
        refine w_region ?_
        refine wl_val (g_move (v := .slice a (xs.length) (c)) rfl) rfl ?_
        refine wl_val (g_len' (a := a) (l := (xs.length)) (c := c) SL30 rfl) rfl ?_
        refine wl_val (g_move (v := .int .i64 (0)) rfl) rfl ?_
        refine wl_nil ?_
        refine hK40 _ _ ?_
        refine w_block ?_
        refine w_for (σ := Nat) (fun j => [(0, .slice a (xs.length) (c)), (3, .int .i64 ((maoT xs (xs.take k)))), (5, .pointer (some ((⟨g23, 0, none⟩ : Addr)))), (6, .int .i64 (((atN (xs.take j) xs[k]!.2.1 : Nat) : Int))), (12, .slice a (xs.length) (c)), (13, .int .i64 (((xs.length : Nat) : Int))), (14, .int .i64 (((k : Nat) : Int))), (18, .slice a (xs.length) (c)), (19, .int .i64 (((xs.length : Nat) : Int))), (20, .int .i64 (((j : Nat) : Int)))]) (fun j w' => (j ≤ xs.length) ∧ (Hid (atN (xs.take j) xs[k]!.2.1 ≤ j)) ∧ (Below w.heap.size w w') ∧ (Blk w' g23 42 #[.int .i64 (xs[k]!.1), .int .i64 (xs[k]!.2.1), .int .i64 (xs[k]!.2.2)])) (fun j => xs.length - j) (0) ⟨rfl, rfl, rfl, rfl, rfl, rfl, rfl, rfl, rfl, rfl, trivial⟩ ?_ ?_
        · exact ⟨Nat.zero_le _, Nat.le_refl _, hB36, hb33⟩
        · rintro j b44 w42 ⟨hj, hb, hB2, hq41⟩
          show Wp _ _ _ _ (upds b44 [(0, .slice a (xs.length) (c)), (3, .int .i64 ((maoT xs (xs.take k)))), (5, .pointer (some ((⟨g23, 0, none⟩ : Addr)))), (6, .int .i64 (((atN (xs.take j) xs[k]!.2.1 : Nat) : Int))), (12, .slice a (xs.length) (c)), (13, .int .i64 (((xs.length : Nat) : Int))), (14, .int .i64 (((k : Nat) : Int))), (18, .slice a (xs.length) (c)), (19, .int .i64 (((xs.length : Nat) : Int))), (20, .int .i64 (((j : Nat) : Int)))]) w42
          have hB2z := hB2.size
          have hb2 := hb.out
          refine w_seq fun K45 hK45 => ?_
          refine w_region ?_
          refine wl_val (g_lss (a := ((j : Nat) : Int)) (b := ((xs.length : Nat) : Int)) rfl rfl) rfl ?_
          refine wl_nil ?_
          refine hK45 _ _ ?_
          refine w_seq fun K46 hK46 => ?_
          refine w_cond_d (p := ((j : Nat) : Int) < ((xs.length : Nat) : Int)) rfl (fun h47 => ?_) (fun h47 => ?_)
          · refine w_skip ?_
            refine hK46 _ _ ?_
            refine w_seq fun K48 hK48 => ?_
            refine w_block ?_
            refine w_seq fun K49 hK49 => ?_
            refine w_region ?_
            refine wl_val (g_index (a := a) (l := (xs.length)) (c := c) (i := ((j : Nat) : Int)) SL30 rfl rfl (Stay_some (i := ((j : Nat) : Int)) (Cells.below hx hB2 (by omega)) (by omega) (by omega)) (by omega) (by omega)) rfl ?_
            refine wl_val (g_loadS (q := (adr a).add (j * 3)) (cs := [.int .i64 (xs[j]!.1), .int .i64 (xs[j]!.2.1), .int .i64 (xs[j]!.2.2)]) AG42 rfl (Stay_all (i := ((j : Nat) : Int)) (Cells.below hx hB2 (by omega)) (by omega) (by omega))) rfl ?_
            refine wl_step rfl (g_alloc (cs := #[.int .i64 (0), .int .i64 (0), .int .i64 (0)]) ZR42 rfl) ?_
            rintro _ w50 ⟨g51, rfl, hg52, hb53, hE54⟩
            have hd55 : g23 ≠ g51 := by have := hq41.lt; omega
            have hs56 := hE54.size
            have hB57 := Ext.below hB2 hE54 (by omega)
            have hz58 := hB57.size
            have hb59 := hq41.ext hE54
            refine wl_step rfl (g_storeB (g := g51) (k := 0) (bs := #[.int .i64 (0), .int .i64 (0), .int .i64 (0)]) (bs' := #[.int .i64 (xs[j]!.1), .int .i64 (xs[j]!.2.1), .int .i64 (xs[j]!.2.2)]) (vs := [.int .i64 (xs[j]!.1), .int .i64 (xs[j]!.2.1), .int .i64 (xs[j]!.2.2)]) hb53 AG42.sz rfl rfl rfl (by simp [Value.oneCell']) (Nat.le_of_ble_eq_true rfl) rfl) ?_
            rintro _ w61 ⟨rfl, hb63, hC62⟩
            have hs64 := hC62.size
            have hl65 := hb53.lt
            have hB66 := Chg.below hB57 hC62 (by omega) (fun k hk => by cases hk; omega)
            have hz67 := hB66.size
            have hb68 := hb59.chg hC62 (fun k hk => by cases hk; omega)
            refine wl_nil ?_
            refine hK49 _ _ ?_
            refine w_seq fun K69 hK69 => ?_
            refine w_region ?_
            refine wl_val (g_fieldAddr (q := (⟨g51, 0, none⟩ : Addr)) FL42_1 ON3 rfl) rfl ?_
            refine wl_val (g_load1 (q := ((⟨g51, 0, none⟩ : Addr)).add 1) (v := .int .i64 (xs[j]!.2.1)) ON3 rfl (Blk.at0 (i := 1) hb63 rfl)) rfl ?_
            refine wl_val (g_fieldAddr (q := (⟨g23, 0, none⟩ : Addr)) FL42_1 ON3 rfl) rfl ?_
            refine wl_val (g_load1 (q := ((⟨g23, 0, none⟩ : Addr)).add 1) (v := .int .i64 (xs[k]!.2.1)) ON3 rfl (Blk.at0 (i := 1) hb68 rfl)) rfl ?_
            refine wl_val (g_leq (a := xs[j]!.2.1) (b := xs[k]!.2.1) rfl rfl) rfl ?_
            refine wl_val (g_move (v := .bool (decide (xs[j]!.2.1 ≤ xs[k]!.2.1))) rfl) rfl ?_
            refine wl_guard (c := (decide (xs[j]!.2.1 ≤ xs[k]!.2.1)) = true) (val := .pointer (some (((⟨g23, 0, none⟩ : Addr)).add 1))) (b := ((decide (xs[j]!.2.1 ≤ xs[k]!.2.1)) == true)) (gv_some rfl rfl rfl) beq_iff_eq (fun hg70 => ?_) ?_
            · have hg70p := of_decide_eq_true hg70
              exact g_fieldAddr (q := (⟨g23, 0, none⟩ : Addr)) FL42_1 ON3 rfl
            refine wl_guard (c := (decide (xs[j]!.2.1 ≤ xs[k]!.2.1)) = true) (val := .int .i64 (xs[k]!.2.1)) (b := ((decide (xs[j]!.2.1 ≤ xs[k]!.2.1)) == true)) (gv_some rfl rfl rfl) beq_iff_eq (fun hg71 => ?_) ?_
            · have hg71p := of_decide_eq_true hg71
              exact g_load1 (q := ((⟨g23, 0, none⟩ : Addr)).add 1) (v := .int .i64 (xs[k]!.2.1)) ON3 (if_pos hg71) (Blk.at0 (i := 1) hb68 rfl)
            refine wl_guard (c := (decide (xs[j]!.2.1 ≤ xs[k]!.2.1)) = true) (val := .pointer (some (((⟨g51, 0, none⟩ : Addr)).add 2))) (b := ((decide (xs[j]!.2.1 ≤ xs[k]!.2.1)) == true)) (gv_some rfl rfl rfl) beq_iff_eq (fun hg72 => ?_) ?_
            · have hg72p := of_decide_eq_true hg72
              exact g_fieldAddr (q := (⟨g51, 0, none⟩ : Addr)) FL42_2 ON3 rfl
            refine wl_guard (c := (decide (xs[j]!.2.1 ≤ xs[k]!.2.1)) = true) (val := .int .i64 (xs[j]!.2.2)) (b := ((decide (xs[j]!.2.1 ≤ xs[k]!.2.1)) == true)) (gv_some rfl rfl rfl) beq_iff_eq (fun hg73 => ?_) ?_
            · have hg73p := of_decide_eq_true hg73
              exact g_load1 (q := ((⟨g51, 0, none⟩ : Addr)).add 2) (v := .int .i64 (xs[j]!.2.2)) ON3 (if_pos hg73) (Blk.at0 (i := 2) hb63 rfl)
            refine wl_guard (c := (decide (xs[j]!.2.1 ≤ xs[k]!.2.1)) = true) (val := .bool (decide (xs[k]!.2.1 < xs[j]!.2.2))) (b := ((decide (xs[j]!.2.1 ≤ xs[k]!.2.1)) == true)) (gv_some rfl rfl rfl) beq_iff_eq (fun hg74 => ?_) ?_
            · have hg74p := of_decide_eq_true hg74
              exact g_lss (a := xs[k]!.2.1) (b := xs[j]!.2.2) (if_pos hg74) (if_pos hg74)
            refine wl_val (g_pick (b := (decide (xs[j]!.2.1 ≤ xs[k]!.2.1))) (v := .bool (decide (xs[j]!.2.1 ≤ xs[k]!.2.1) && decide (xs[k]!.2.1 < xs[j]!.2.2))) rfl (fun h => by simp only [ev]; first | (show (if _ then _ else _ : Value) = _; rw [if_pos h, h]; rfl)) (fun h => by rw [h]; rfl)) rfl ?_
            refine wl_nil ?_
            refine hK69 _ _ ?_
            refine w_cond (b := ((decide (xs[j]!.2.1 ≤ xs[k]!.2.1) && decide (xs[k]!.2.1 < xs[j]!.2.2)))) rfl (fun h75 => ?_) (fun h75 => ?_)
            · replace h75 := (fun h => And.imp of_decide_eq_true of_decide_eq_true (bt_and h)) h75
              refine w_region ?_
              refine wl_val (g_move (v := .int .i64 (((atN (xs.take j) xs[k]!.2.1 : Nat) : Int))) rfl) rfl ?_
              refine wl_val (g_add (a := ((atN (xs.take j) xs[k]!.2.1 : Nat) : Int)) (b := 1) rfl rfl ⟨by omega, by omega⟩) rfl ?_
              refine wl_val (g_assign (v := .int .i64 ((((atN (xs.take j) xs[k]!.2.1 : Nat) : Int) + 1))) rfl) rfl ?_
              refine wl_nil ?_
              refine hK48 _ _ ?_
              refine w_region ?_
              refine wl_val (g_add (a := ((j : Nat) : Int)) (b := 1) rfl rfl ⟨by omega, by omega⟩) rfl ?_
              refine wl_val (g_move (v := .int .i64 ((((j : Nat) : Int) + 1))) rfl) rfl ?_
              refine wl_nil ?_
              exact ⟨(j + 1), (by first | omega | (dsimp only; omega)), ⟨rfl, rfl, rfl, congrArg (Value.int .i64) (at_yes (by omega) h75), rfl, rfl, rfl, rfl, rfl, rfl, trivial⟩, ⟨by omega, Nat.le_trans (at_le _ _) (by simp; omega), hB66, hb68⟩⟩
            · replace h75 := (fun h => Or.imp of_decide_eq_false of_decide_eq_false (bf_and h)) h75
              refine w_skip ?_
              refine hK48 _ _ ?_
              refine w_region ?_
              refine wl_val (g_add (a := ((j : Nat) : Int)) (b := 1) rfl rfl ⟨by omega, by omega⟩) rfl ?_
              refine wl_val (g_move (v := .int .i64 ((((j : Nat) : Int) + 1))) rfl) rfl ?_
              refine wl_nil ?_
              exact ⟨(j + 1), (by first | omega | (dsimp only; omega)), ⟨rfl, rfl, rfl, congrArg (Value.int .i64) (at_no (by omega) (by omega)), rfl, rfl, rfl, rfl, rfl, rfl, trivial⟩, ⟨by omega, Nat.le_trans (at_le _ _) (by simp; omega), hB66, hb68⟩⟩
          · refine w_exit ?_
            have hall : atN (xs.take j) xs[k]!.2.1 = atN xs xs[k]!.2.1 := at_all (by omega)
            rw [hall]
            refine hK39 _ _ ?_
            refine w_region ?_
            refine wl_val (g_move (v := .int .i64 ((maoT xs (xs.take k)))) rfl) rfl ?_
            refine wl_val (g_move (v := .int .i64 (((atN xs xs[k]!.2.1 : Nat) : Int))) rfl) rfl ?_
            refine wl_val (g_max (a := (maoT xs (xs.take k))) (b := ((atN xs xs[k]!.2.1 : Nat) : Int)) rfl rfl) rfl ?_
            refine wl_val (g_assign (v := .int .i64 ((max ((maoT xs (xs.take k))) (((atN xs xs[k]!.2.1 : Nat) : Int))))) rfl) rfl ?_
            refine wl_nil ?_
            refine hK20 _ _ ?_
            refine w_region ?_
            refine wl_val (g_add (a := ((k : Nat) : Int)) (b := 1) rfl rfl ⟨by omega, by omega⟩) rfl ?_
            refine wl_val (g_move (v := .int .i64 ((((k : Nat) : Int) + 1))) rfl) rfl ?_
            refine wl_nil ?_
            exact ⟨(k + 1), (by first | omega | (dsimp only; omega)), ⟨rfl, congrArg (Value.int .i64) (mao_step (by omega)), rfl, rfl, rfl, trivial⟩, ⟨by omega, hB2⟩⟩
      · refine w_exit ?_
        refine hK12 _ _ ?_
        refine w_seq fun K76 hK76 => ?_
        refine w_region ?_
        refine wl_val (g_move (v := .int .i64 ((maoT xs (xs.take k)))) rfl) rfl ?_
        refine wl_val (g_assign (v := .int .i64 ((maoT xs (xs.take k)))) rfl) rfl ?_
        refine wl_nil ?_
        refine hK76 _ _ ?_
        refine w_ret ?_
        exact ret1 rfl (by decide) ⟨congrArg (Value.int .i64) (mao_good h9 (k := k) (by omega)).symm, toExt hB1⟩
end Go.Proofs.Ytenoommpckddlaa
