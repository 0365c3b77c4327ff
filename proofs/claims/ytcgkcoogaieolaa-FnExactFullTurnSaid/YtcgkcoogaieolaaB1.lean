import Derived.Test.YtcgkcoogaieolaaFacts
import Derived.Test.YtcgkcoogaieolaaPlainB
namespace Go.Proofs.Ytcgkcoogaieolaa
open Go Go.RowKit
theorem specIn_fn (x a b : Int) {w : World} :
    Fn Try.prog 53 #[.int .i64 (x), .int .i64 (a), .int .i64 (b)] w (RetV w (.bool (decide (a ≤ x ∧ x ≤ b)))) := by
  refine fn_of_wp Try.func53 rfl (by kernel_rfl) (Nat.le_of_ble_eq_true rfl) ?_
  have hB0 := Below.refl w.heap.size w
  have hz0 := hB0.size
  refine w_seq fun K1 hK1 => ?_
  refine w_region ?_
  refine wl_val (g_assign (v := .bool (false)) rfl) rfl ?_
  refine wl_nil ?_
  refine hK1 _ _ ?_
  refine w_seq fun K2 hK2 => ?_
  refine w_region ?_
  refine wl_val (g_move (v := .int .i64 (x)) rfl) rfl ?_
  refine wl_val (g_move (v := .int .i64 (a)) rfl) rfl ?_
  refine wl_val (g_geq (a := x) (b := a) rfl rfl) rfl ?_
  refine wl_val (g_move (v := .bool (decide (x ≥ a))) rfl) rfl ?_
  refine wl_guard (c := (decide (x ≥ a)) = true) (val := .int .i64 (x)) (b := ((decide (x ≥ a)) == true)) (gv_some rfl rfl rfl) beq_iff_eq (fun hg3 => ?_) ?_
  · have hg3p := of_decide_eq_true hg3
    exact g_move (v := .int .i64 (x)) rfl
  refine wl_guard (c := (decide (x ≥ a)) = true) (val := .int .i64 (b)) (b := ((decide (x ≥ a)) == true)) (gv_some rfl rfl rfl) beq_iff_eq (fun hg4 => ?_) ?_
  · have hg4p := of_decide_eq_true hg4
    exact g_move (v := .int .i64 (b)) rfl
  refine wl_guard (c := (decide (x ≥ a)) = true) (val := .bool (decide (x ≤ b))) (b := ((decide (x ≥ a)) == true)) (gv_some rfl rfl rfl) beq_iff_eq (fun hg5 => ?_) ?_
  · have hg5p := of_decide_eq_true hg5
    exact g_leq (a := x) (b := b) (if_pos (e := undef) hg5) (if_pos (e := undef) hg5)
  refine wl_val (g_pick_and (b := (decide (x ≥ a))) (q := (decide (x ≤ b))) rfl rfl) rfl ?_
  refine wl_val (g_assign (v := .bool ((decide (x ≥ a) && decide (x ≤ b)))) rfl) rfl ?_
  refine wl_nil ?_
  refine hK2 _ _ ?_
  refine w_ret ?_
  exact ret1 rfl (by decide) ⟨congrArg Value.bool (in_eq x a b), toExt hB0⟩
theorem within_fn (x a b : Int) {w : World} :
    Fn Try.prog 54 #[.int .i64 (x), .int .i64 (a), .int .i64 (b)] w (RetV w (.bool (decide (a ≤ x ∧ x ≤ b)))) := by
  refine fn_of_wp Try.func54 rfl (by kernel_rfl) (Nat.le_of_ble_eq_true rfl) ?_
  have hB0 := Below.refl w.heap.size w
  have hz0 := hB0.size
  refine w_seq fun K1 hK1 => ?_
  refine w_region ?_
  refine wl_val (g_assign (v := .bool (false)) rfl) rfl ?_
  refine wl_nil ?_
  refine hK1 _ _ ?_
  refine w_seq fun K2 hK2 => ?_
  refine w_region ?_
  refine wl_val (g_move (v := .int .i64 (x)) rfl) rfl ?_
  refine wl_val (g_move (v := .int .i64 (a)) rfl) rfl ?_
  refine wl_val (g_geq (a := x) (b := a) rfl rfl) rfl ?_
  refine wl_val (g_move (v := .bool (decide (x ≥ a))) rfl) rfl ?_
  refine wl_guard (c := (decide (x ≥ a)) = true) (val := .int .i64 (x)) (b := ((decide (x ≥ a)) == true)) (gv_some rfl rfl rfl) beq_iff_eq (fun hg3 => ?_) ?_
  · have hg3p := of_decide_eq_true hg3
    exact g_move (v := .int .i64 (x)) rfl
  refine wl_guard (c := (decide (x ≥ a)) = true) (val := .int .i64 (b)) (b := ((decide (x ≥ a)) == true)) (gv_some rfl rfl rfl) beq_iff_eq (fun hg4 => ?_) ?_
  · have hg4p := of_decide_eq_true hg4
    exact g_move (v := .int .i64 (b)) rfl
  refine wl_guard (c := (decide (x ≥ a)) = true) (val := .bool (decide (x ≤ b))) (b := ((decide (x ≥ a)) == true)) (gv_some rfl rfl rfl) beq_iff_eq (fun hg5 => ?_) ?_
  · have hg5p := of_decide_eq_true hg5
    exact g_leq (a := x) (b := b) (if_pos (e := undef) hg5) (if_pos (e := undef) hg5)
  refine wl_val (g_pick_and (b := (decide (x ≥ a))) (q := (decide (x ≤ b))) rfl rfl) rfl ?_
  refine wl_val (g_assign (v := .bool ((decide (x ≥ a) && decide (x ≤ b)))) rfl) rfl ?_
  refine wl_nil ?_
  refine hK2 _ _ ?_
  refine w_ret ?_
  exact ret1 rfl (by decide) ⟨congrArg Value.bool (in_eq x a b), toExt hB0⟩
theorem szCrossS_fn {a : Option Addr} {c : Nat} (n : Nat) (left : Int) {w : World} (hn : n ≤ 9223372036854775807) (h0 : 0 ≤ left) (h1 : left ≤ 1048576) :
    Fn Try.prog 14 #[.slice a (n) (c), .int .i64 (left)] w (RetV w (.int .i64 (szR left n))) := by
  refine fn_of_wp Try.func14 rfl (by kernel_rfl) (Nat.le_of_ble_eq_true rfl) ?_
  have hB0 := Below.refl w.heap.size w
  have hz0 := hB0.size
  refine w_seq fun K1 hK1 => ?_
  refine w_region ?_
  refine wl_val (g_assign (v := .int .i64 (0)) rfl) rfl ?_
  refine wl_nil ?_
  refine hK1 _ _ ?_
  refine w_seq fun K2 hK2 => ?_
  refine w_region ?_
  refine wl_val (g_move (v := .int .i64 (left)) rfl) rfl ?_
  refine wl_val (g_move (v := .slice a (n) (c)) rfl) rfl ?_
  refine wl_val (g_len' (a := a) (l := n) (c := c) SL22 rfl) rfl ?_
  refine wl_val (g_sub (a := left) (b := ((n : Nat) : Int)) rfl rfl ⟨by omega, by omega⟩) rfl ?_
  refine wl_val (g_assign (v := .int .i64 ((left - ((n : Nat) : Int)))) rfl) rfl ?_
  refine wl_nil ?_
  refine hK2 _ _ ?_
  refine w_seq fun K3 hK3 => ?_
  refine w_seq fun K4 hK4 => ?_
  refine w_region ?_
  refine wl_val (g_move (v := .int .i64 ((left - ((n : Nat) : Int)))) rfl) rfl ?_
  refine wl_val (g_lss (a := (left - ((n : Nat) : Int))) (b := 0) rfl rfl) rfl ?_
  refine wl_nil ?_
  refine hK4 _ _ ?_
  refine w_cond_d (p := (left - ((n : Nat) : Int)) < 0) rfl (fun h5 => ?_) (fun h5 => ?_)
  · refine w_seq fun K6 hK6 => ?_
    refine w_region ?_
    refine wl_val (g_assign (v := .int .i64 ((-1))) rfl) rfl ?_
    refine wl_nil ?_
    refine hK6 _ _ ?_
    refine w_ret ?_
    exact ret1 rfl (by decide) ⟨congrArg (Value.int .i64) (if_pos h5).symm, toExt hB0⟩
  · refine w_skip ?_
    refine hK3 _ _ ?_
    refine w_seq fun K7 hK7 => ?_
    refine w_region ?_
    refine wl_val (g_move (v := .int .i64 ((left - ((n : Nat) : Int)))) rfl) rfl ?_
    refine wl_val (g_assign (v := .int .i64 ((left - ((n : Nat) : Int)))) rfl) rfl ?_
    refine wl_nil ?_
    refine hK7 _ _ ?_
    refine w_ret ?_
    exact ret1 rfl (by decide) ⟨congrArg (Value.int .i64) (if_neg h5).symm, toExt hB0⟩
theorem toCross_fn (p : Int) (f : Bool) {w : World} :
    Fn Try.prog 51 #[.agg #[.int .i64 (p), .bool (f)]] w (RetV w (.agg #[.int .i64 p, .bool f])) := by
  refine fn_of_wp Try.func51 rfl (by kernel_rfl) (Nat.le_of_ble_eq_true rfl) ?_
  have hB0 := Below.refl w.heap.size w
  have hz0 := hB0.size
  refine w_seq fun K1 hK1 => ?_
  refine w_region ?_
  refine wl_step rfl (g_box (cs := #[.int .i64 (p), .bool (f)]) rfl rfl) ?_
  rintro _ w2 ⟨g3, rfl, hg4, hb5, hE6⟩
  have hs7 := hE6.size
  have hB8 := Ext.below hB0 hE6 (by omega)
  have hz9 := hB8.size
  refine wl_step rfl (g_alloc (cs := #[.int .i64 (0), .bool (false)]) ZR56 rfl) ?_
  rintro _ w11 ⟨g12, rfl, hg13, hb14, hE15⟩
  have hd16 : g3 ≠ g12 := by have := hb5.lt; omega
  have hs17 := hE15.size
  have hB18 := Ext.below hB8 hE15 (by omega)
  have hz19 := hB18.size
  have hb20 := hb5.ext hE15
  refine wl_nil ?_
  refine hK1 _ _ ?_
  refine w_seq fun K22 hK22 => ?_
  refine w_region ?_
  refine wl_step rfl (g_alloc (cs := #[.int .i64 (0), .bool (false)]) ZR56 rfl) ?_
  rintro _ w23 ⟨g24, rfl, hg25, hb26, hE27⟩
  have hd28 : g3 ≠ g24 := by have := hb20.lt; omega
  have hd29 : g12 ≠ g24 := by have := hb14.lt; omega
  have hs30 := hE27.size
  have hB31 := Ext.below hB18 hE27 (by omega)
  have hz32 := hB31.size
  have hb33 := hb20.ext hE27
  have hb34 := hb14.ext hE27
  refine wl_nil ?_
  refine hK22 _ _ ?_
  refine w_seq fun K36 hK36 => ?_
  refine w_region ?_
  refine wl_val (g_fieldAddr (q := (⟨g3, 0, none⟩ : Addr)) FL58_0 ON3 rfl) rfl ?_
  refine wl_val (g_load1 (q := ((⟨g3, 0, none⟩ : Addr)).add 0) (v := .int .i64 (p)) ON3 rfl (Blk.at0 (i := 0) hb33 rfl)) rfl ?_
  refine wl_val (g_fieldAddr (q := (⟨g24, 0, none⟩ : Addr)) FL56_0 ON3 rfl) rfl ?_
  refine wl_step rfl (g_storeB (g := g24) (k := 0) (bs := #[.int .i64 (0), .bool (false)]) (bs' := #[.int .i64 (p), .bool (false)]) (vs := [.int .i64 (p)]) hb26 ON3.sz rfl rfl rfl (by simp [Value.oneCell']) (Nat.le_of_ble_eq_true rfl) rfl) ?_
  rintro _ w37 ⟨rfl, hb39, hC38⟩
  have hs40 := hC38.size
  have hl41 := hb26.lt
  have hB42 := Chg.below hB31 hC38 (by omega) (fun k hk => by cases hk; omega)
  have hz43 := hB42.size
  have hb44 := hb33.chg hC38 (fun k hk => by cases hk; omega)
  have hb45 := hb34.chg hC38 (fun k hk => by cases hk; omega)
  refine wl_nil ?_
  refine hK36 _ _ ?_
  refine w_seq fun K46 hK46 => ?_
  refine w_region ?_
  refine wl_val (g_fieldAddr (q := (⟨g3, 0, none⟩ : Addr)) FL58_1 ON4 rfl) rfl ?_
  refine wl_val (g_load1 (q := ((⟨g3, 0, none⟩ : Addr)).add 1) (v := .bool (f)) ON4 rfl (Blk.at0 (i := 1) hb44 rfl)) rfl ?_
  refine wl_val (g_fieldAddr (q := (⟨g24, 0, none⟩ : Addr)) FL56_1 ON4 rfl) rfl ?_
  refine wl_step rfl (g_storeB (g := g24) (k := 1) (bs := #[.int .i64 (p), .bool (false)]) (bs' := #[.int .i64 (p), .bool (f)]) (vs := [.bool (f)]) hb39 ON4.sz rfl rfl rfl (by simp [Value.oneCell']) (Nat.le_of_ble_eq_true rfl) rfl) ?_
  rintro _ w47 ⟨rfl, hb49, hC48⟩
  have hs50 := hC48.size
  have hl51 := hb39.lt
  have hB52 := Chg.below hB42 hC48 (by omega) (fun k hk => by cases hk; omega)
  have hz53 := hB52.size
  have hb54 := hb44.chg hC48 (fun k hk => by cases hk; omega)
  have hb55 := hb45.chg hC48 (fun k hk => by cases hk; omega)
  refine wl_nil ?_
  refine hK46 _ _ ?_
  refine w_seq fun K56 hK56 => ?_
  refine w_region ?_
  refine wl_val (g_loadS (q := (⟨g24, 0, none⟩ : Addr)) (cs := [.int .i64 (p), .bool (f)]) AG56 rfl (Blk.all hb49 rfl)) rfl ?_
  refine wl_step rfl (g_storeB (g := g12) (k := 0) (bs := #[.int .i64 (0), .bool (false)]) (bs' := #[.int .i64 (p), .bool (f)]) (vs := [.int .i64 (p), .bool (f)]) hb55 AG56.sz rfl rfl rfl (by simp [Value.oneCell']) (Nat.le_of_ble_eq_true rfl) rfl) ?_
  rintro _ w57 ⟨rfl, hb59, hC58⟩
  have hs60 := hC58.size
  have hl61 := hb55.lt
  have hB62 := Chg.below hB52 hC58 (by omega) (fun k hk => by cases hk; omega)
  have hz63 := hB62.size
  have hb64 := hb54.chg hC58 (fun k hk => by cases hk; omega)
  have hb65 := hb49.chg hC58 (fun k hk => by cases hk; omega)
  refine wl_nil ?_
  refine hK56 _ _ ?_
  refine w_ret ?_
  exact ret_cell (q := (⟨g12, 0, none⟩ : Addr)) (cs := [.int .i64 (p), .bool (f)]) rfl (by decide) rfl AG56 (Blk.all hb59 rfl) ⟨rfl, toExt hB62⟩
theorem toCrossS_fn {lo hi : Nat} {a : Option Addr} {c : Nat} {xs : List Cross} {w : World} (hx : Cells lo hi w a (xs.flatMap crC)) (hhi : hi ≤ w.heap.size) (hl : xs.length ≤ 1099511627776) :
    Fn Try.prog 16 #[.slice a (xs.length) (c)] w (RetS w 56 2 xs.length (xs.flatMap crC)) := by
  refine fn_of_wp Try.func16 rfl (by kernel_rfl) (Nat.le_of_ble_eq_true rfl) ?_
  have hB0 := Below.refl w.heap.size w
  have hz0 := hB0.size
  refine w_seq fun K1 hK1 => ?_
  refine w_region ?_
  refine wl_val (g_assign (v := .slice none (0) (0)) rfl) rfl ?_
  refine wl_nil ?_
  refine hK1 _ _ ?_
  refine w_seq fun K2 hK2 => ?_
  refine w_region ?_
  refine wl_val (g_move (v := .slice a (xs.length) (c)) rfl) rfl ?_
  refine wl_val (g_len' (a := a) (l := (xs.length)) (c := c) SL22 rfl) rfl ?_
  refine wl_step rfl (g_make (k := xs.length) SL24 rfl (by omega) (by unfold maxLen; omega)) ?_
  rintro _ w3 ⟨o, rfl, hO4, hE5⟩
  rw [made_cross] at hO4
  have hs6 := hE5.size
  have hB7 := Ext.below hB0 hE5 (by omega)
  have hz8 := hB7.size
  refine wl_val (g_assign (v := .slice o (xs.length) (xs.length)) rfl) rfl ?_
  refine wl_nil ?_
  refine hK2 _ _ ?_
  refine w_seq fun K9 hK9 => ?_
  refine w_seq fun K10 hK10 => ?_
  refine w_region ?_
  refine wl_val (g_assign (v := .int .i64 (0)) rfl) rfl ?_
  refine wl_nil ?_
  refine hK10 _ _ ?_
  refine w_block ?_
  refine w_for (σ := Nat × List Cross) (fun ⟨k, l⟩ => [(0, .slice a (xs.length) (c)), (3, .slice o (xs.length) (xs.length)), (4, .int .i64 (((k : Nat) : Int)))]) (fun ⟨k, l⟩ w' => (k ≤ xs.length) ∧ (l.length = xs.length) ∧ (l.take k = xs.take k) ∧ (Own w' w.heap.size 56 2 o xs.length xs.length (l.flatMap crC)) ∧ (Below w.heap.size w w')) (fun ⟨k, l⟩ => xs.length - k) (0, List.replicate xs.length ((0, false) : Cross)) ⟨rfl, rfl, rfl, trivial⟩ ?_ ?_
  · exact ⟨Nat.zero_le _, by simp, by simp, hO4.mono (by omega), hB7⟩
  · rintro ⟨k, l⟩ b13 w11 ⟨hk, hll, ht, hO, hB1⟩
    show Wp _ _ _ _ (upds b13 [(0, .slice a (xs.length) (c)), (3, .slice o (xs.length) (xs.length)), (4, .int .i64 (((k : Nat) : Int)))]) w11
    have hB1z := hB1.size
    refine w_seq fun K14 hK14 => ?_
    refine w_seq fun K15 hK15 => ?_
    refine w_region ?_
    refine wl_val (g_move (v := .int .i64 (((k : Nat) : Int))) rfl) rfl ?_
    refine wl_val (g_move (v := .slice a (xs.length) (c)) rfl) rfl ?_
    refine wl_val (g_len' (a := a) (l := (xs.length)) (c := c) SL22 rfl) rfl ?_
    refine wl_val (g_lss (a := ((k : Nat) : Int)) (b := ((xs.length : Nat) : Int)) rfl rfl) rfl ?_
    refine wl_nil ?_
    refine hK15 _ _ ?_
    refine w_cond_d (p := ((k : Nat) : Int) < ((xs.length : Nat) : Int)) rfl (fun h16 => ?_) (fun h16 => ?_)
    · refine w_skip ?_
      refine hK14 _ _ ?_
      refine w_seq fun K17 hK17 => ?_
      refine w_block ?_
      refine w_region ?_
      refine wl_val (g_move (v := .slice o (xs.length) (xs.length)) rfl) rfl ?_
      refine wl_val (g_move (v := .int .i64 (((k : Nat) : Int))) rfl) rfl ?_
      refine wl_val (g_move (v := .slice a (xs.length) (c)) rfl) rfl ?_
      refine wl_val (g_move (v := .int .i64 (((k : Nat) : Int))) rfl) rfl ?_
      refine wl_val (g_index (a := a) (l := (xs.length)) (c := c) (i := ((k : Nat) : Int)) SL22 rfl rfl (Cross_some (i := ((k : Nat) : Int)) (Cells.below hx hB1 (by omega)) (by omega) (by omega)) (by omega) (by omega)) rfl ?_
      refine wl_val (g_loadS (q := (adr a).add (k * 2)) (cs := [.int .i64 (xs[k]!.1), .bool (xs[k]!.2)]) AG58 rfl (Cross_all (i := ((k : Nat) : Int)) (Cells.below hx hB1 (by omega)) (by omega) (by omega))) rfl ?_
      refine wl_step rfl (g_call (vs := #[.agg #[.int .i64 (xs[k]!.1), .bool (xs[k]!.2)]]) CF51 (args1 rfl) (toCross_fn (xs[k]!.1) (xs[k]!.2))) ?_
      rintro _ w18 ⟨rfl, hE19⟩
      have hs20 := hE19.size
      have hB21 := Ext.below hB1 hE19 (by omega)
      have hz22 := hB21.size
      have hout23 := hO.ext hE19
      refine wl_val (g_index (a := o) (l := (xs.length)) (c := (xs.length)) (i := ((k : Nat) : Int)) SL24 rfl rfl (Cross_some (i := ((k : Nat) : Int)) (Own.cells hout23) (by omega) (by first | omega | (simp; omega))) (by omega) (by omega)) rfl ?_
      refine wl_step rfl (g_store_rec (enc := crC) (xs := l) (i := k) (v := xs[k]!) hout23 crC_len AG56 (by decide) rfl rfl rfl (by simp [Value.oneCell', crC]) (by first | omega | (simp; omega))) ?_
      rintro _ w24 ⟨rfl, hO26, hC25⟩
      have hs27 := hC25.size
      have hB28 := Chg.below hB21 hC25 (by omega) (fun k hk => by have := hout23.lt k hk; omega)
      have hz29 := hB28.size
      refine wl_nil ?_
      refine hK17 _ _ ?_
      refine w_region ?_
      refine wl_val (g_move (v := .int .i64 (((k : Nat) : Int))) rfl) rfl ?_
      refine wl_val (g_add (a := ((k : Nat) : Int)) (b := 1) rfl rfl ⟨by omega, by omega⟩) rfl ?_
      refine wl_val (g_assign (v := .int .i64 ((((k : Nat) : Int) + 1))) rfl) rfl ?_
      refine wl_nil ?_
      exact ⟨(k + 1, l.set k xs[k]!), (by first | omega | (dsimp only; omega)), ⟨rfl, rfl, rfl, trivial⟩, ⟨by omega, by simp; omega, Holds_set l xs k hll (by omega) ht, hO26, hB28⟩⟩
    · refine w_exit ?_
      refine hK9 _ _ ?_
      refine w_seq fun K30 hK30 => ?_
      refine w_region ?_
      refine wl_val (g_move (v := .slice o (xs.length) (xs.length)) rfl) rfl ?_
      refine wl_val (g_assign (v := .slice o (xs.length) (xs.length)) rfl) rfl ?_
      refine wl_nil ?_
      refine hK30 _ _ ?_
      refine w_ret ?_
      have hlx : l = xs := by have h1 := ht; rw [List.take_of_length_le (by omega), List.take_of_length_le (by omega)] at h1; exact h1
      subst hlx
      exact ret1 rfl (by decide) ⟨_, _, rfl, hO.nil0, hO, toExt hB1⟩
theorem eqCross_fn (s t : Cross) {w : World} :
    Fn Try.prog 52 #[.agg #[.int .i64 (s.1), .bool (s.2)], .agg #[.int .i64 (t.1), .bool (t.2)]] w (RetV w (.bool (decide (s = t)))) := by
  refine fn_of_wp Try.func52 rfl (by kernel_rfl) (Nat.le_of_ble_eq_true rfl) ?_
  have hB0 := Below.refl w.heap.size w
  have hz0 := hB0.size
  refine w_seq fun K1 hK1 => ?_
  refine w_region ?_
  refine wl_step rfl (g_box (cs := #[.int .i64 (s.1), .bool (s.2)]) rfl rfl) ?_
  rintro _ w2 ⟨g3, rfl, hg4, hb5, hE6⟩
  have hs7 := hE6.size
  have hB8 := Ext.below hB0 hE6 (by omega)
  have hz9 := hB8.size
  refine wl_step rfl (g_box (cs := #[.int .i64 (t.1), .bool (t.2)]) rfl rfl) ?_
  rintro _ w11 ⟨g12, rfl, hg13, hb14, hE15⟩
  have hd16 : g3 ≠ g12 := by have := hb5.lt; omega
  have hs17 := hE15.size
  have hB18 := Ext.below hB8 hE15 (by omega)
  have hz19 := hB18.size
  have hb20 := hb5.ext hE15
  refine wl_val (g_assign (v := .bool (false)) rfl) rfl ?_
  refine wl_nil ?_
  refine hK1 _ _ ?_
  refine w_seq fun K22 hK22 => ?_
  refine w_seq fun K23 hK23 => ?_
  refine w_region ?_
  refine wl_val (g_fieldAddr (q := (⟨g3, 0, none⟩ : Addr)) FL56_0 ON3 rfl) rfl ?_
  refine wl_val (g_load1 (q := ((⟨g3, 0, none⟩ : Addr)).add 0) (v := .int .i64 (s.1)) ON3 rfl (Blk.at0 (i := 0) hb20 rfl)) rfl ?_
  refine wl_val (g_fieldAddr (q := (⟨g12, 0, none⟩ : Addr)) FL56_0 ON3 rfl) rfl ?_
  refine wl_val (g_load1 (q := ((⟨g12, 0, none⟩ : Addr)).add 0) (v := .int .i64 (t.1)) ON3 rfl (Blk.at0 (i := 0) hb14 rfl)) rfl ?_
  refine wl_val (g_neq (a := s.1) (b := t.1) rfl rfl) rfl ?_
  refine wl_nil ?_
  refine hK23 _ _ ?_
  refine w_cond_d (p := s.1 ≠ t.1) rfl (fun h24 => ?_) (fun h24 => ?_)
  · refine w_seq fun K25 hK25 => ?_
    refine w_region ?_
    refine wl_val (g_assign (v := .bool (false)) rfl) rfl ?_
    refine wl_nil ?_
    refine hK25 _ _ ?_
    refine w_ret ?_
    exact ret1 rfl (by decide) ⟨congrArg Value.bool (eq_cross_false (fun hx => h24 hx.1)).symm, toExt hB18⟩
  · refine w_skip ?_
    refine hK22 _ _ ?_
    refine w_seq fun K26 hK26 => ?_
    refine w_seq fun K27 hK27 => ?_
    refine w_region ?_
    refine wl_val (g_fieldAddr (q := (⟨g3, 0, none⟩ : Addr)) FL56_1 ON4 rfl) rfl ?_
    refine wl_val (g_load1 (q := ((⟨g3, 0, none⟩ : Addr)).add 1) (v := .bool (s.2)) ON4 rfl (Blk.at0 (i := 1) hb20 rfl)) rfl ?_
    refine wl_val (g_fieldAddr (q := (⟨g12, 0, none⟩ : Addr)) FL56_1 ON4 rfl) rfl ?_
    refine wl_val (g_load1 (q := ((⟨g12, 0, none⟩ : Addr)).add 1) (v := .bool (t.2)) ON4 rfl (Blk.at0 (i := 1) hb14 rfl)) rfl ?_
    refine wl_val (g_neq_b (a := (s.2)) (b := (t.2)) UB rfl rfl) rfl ?_
    refine wl_nil ?_
    refine hK27 _ _ ?_
    refine w_cond_d (p := (s.2) ≠ (t.2)) rfl (fun h28 => ?_) (fun h28 => ?_)
    · refine w_seq fun K29 hK29 => ?_
      refine w_region ?_
      refine wl_val (g_assign (v := .bool (false)) rfl) rfl ?_
      refine wl_nil ?_
      refine hK29 _ _ ?_
      refine w_ret ?_
      exact ret1 rfl (by decide) ⟨congrArg Value.bool (eq_cross_false (fun hx => h28 hx.2)).symm, toExt hB18⟩
    · refine w_skip ?_
      refine hK26 _ _ ?_
      refine w_seq fun K30 hK30 => ?_
      refine w_region ?_
      refine wl_val (g_assign (v := .bool (true)) rfl) rfl ?_
      refine wl_nil ?_
      refine hK30 _ _ ?_
      refine w_ret ?_
      exact ret1 rfl (by decide) ⟨congrArg Value.bool (eq_cross_true (⟨Classical.not_not.1 h24, Classical.not_not.1 h28⟩)).symm, toExt hB18⟩
theorem eqCrossS_fn {lo hi lo2 hi2 : Nat} {a b : Option Addr} {c d : Nat} {xs ys : List Cross} {w : World} (hx : Cells lo hi w a (xs.flatMap crC)) (hy : Cells lo2 hi2 w b (ys.flatMap crC)) (hhi : hi ≤ w.heap.size) (hhi2 : hi2 ≤ w.heap.size) (hl : xs.length ≤ 1099511627776) :
    Fn Try.prog 18 #[.slice a (xs.length) (c), .slice b (ys.length) (d)] w (RetV w (.bool (decide (xs = ys)))) := by
  refine fn_of_wp Try.func18 rfl (by kernel_rfl) (Nat.le_of_ble_eq_true rfl) ?_
  have hB0 := Below.refl w.heap.size w
  have hz0 := hB0.size
  refine w_seq fun K1 hK1 => ?_
  refine w_region ?_
  refine wl_val (g_assign (v := .bool (false)) rfl) rfl ?_
  refine wl_nil ?_
  refine hK1 _ _ ?_
  refine w_seq fun K2 hK2 => ?_
  refine w_seq fun K3 hK3 => ?_
  refine w_region ?_
  refine wl_val (g_move (v := .slice a (xs.length) (c)) rfl) rfl ?_
  refine wl_val (g_len' (a := a) (l := (xs.length)) (c := c) SL24 rfl) rfl ?_
  refine wl_val (g_move (v := .slice b (ys.length) (d)) rfl) rfl ?_
  refine wl_val (g_len' (a := b) (l := (ys.length)) (c := d) SL24 rfl) rfl ?_
  refine wl_val (g_neq (a := ((xs.length : Nat) : Int)) (b := ((ys.length : Nat) : Int)) rfl rfl) rfl ?_
  refine wl_nil ?_
  refine hK3 _ _ ?_
  refine w_cond_d (p := ((xs.length : Nat) : Int) ≠ ((ys.length : Nat) : Int)) rfl (fun h4 => ?_) (fun h4 => ?_)
  · refine w_seq fun K5 hK5 => ?_
    refine w_region ?_
    refine wl_val (g_assign (v := .bool (false)) rfl) rfl ?_
    refine wl_nil ?_
    refine hK5 _ _ ?_
    refine w_ret ?_
    exact ret1 rfl (by decide) ⟨congrArg Value.bool (decide_eq_false (fun h => h4 (by rw [h]))).symm, toExt hB0⟩
  · refine w_skip ?_
    refine hK2 _ _ ?_
    refine w_seq fun K6 hK6 => ?_
    refine w_seq fun K7 hK7 => ?_
    refine w_region ?_
    refine wl_val (g_assign (v := .int .i64 (0)) rfl) rfl ?_
    refine wl_nil ?_
    refine hK7 _ _ ?_
    refine w_block ?_
    refine w_for (σ := Nat) (fun k => [(0, .slice a (xs.length) (c)), (1, .slice b (ys.length) (d)), (5, .int .i64 (((k : Nat) : Int)))]) (fun k w' => (k ≤ xs.length) ∧ (xs.take k = ys.take k) ∧ (Below w.heap.size w w')) (fun k => xs.length - k) (0) ⟨rfl, rfl, rfl, trivial⟩ ?_ ?_
    · exact ⟨Nat.zero_le _, rfl, hB0⟩
    · rintro k b10 w8 ⟨hk, ht, hB1⟩
      show Wp _ _ _ _ (upds b10 [(0, .slice a (xs.length) (c)), (1, .slice b (ys.length) (d)), (5, .int .i64 (((k : Nat) : Int)))]) w8
      have hB1z := hB1.size
      have hle : xs.length = ys.length := by omega
      refine w_seq fun K11 hK11 => ?_
      refine w_seq fun K12 hK12 => ?_
      refine w_region ?_
      refine wl_val (g_move (v := .int .i64 (((k : Nat) : Int))) rfl) rfl ?_
      refine wl_val (g_move (v := .slice a (xs.length) (c)) rfl) rfl ?_
      refine wl_val (g_len' (a := a) (l := (xs.length)) (c := c) SL24 rfl) rfl ?_
      refine wl_val (g_lss (a := ((k : Nat) : Int)) (b := ((xs.length : Nat) : Int)) rfl rfl) rfl ?_
      refine wl_nil ?_
      refine hK12 _ _ ?_
      refine w_cond_d (p := ((k : Nat) : Int) < ((xs.length : Nat) : Int)) rfl (fun h13 => ?_) (fun h13 => ?_)
      · refine w_skip ?_
        refine hK11 _ _ ?_
        refine w_seq fun K14 hK14 => ?_
        refine w_block ?_
        refine w_seq fun K15 hK15 => ?_
        refine w_draw (X := Ext) [] MIX (by decide +kernel) Ext.refl (fun _ _ _ => Ext.trans) (fun w16 hE17 => ?_)
        have hs18 := hE17.size
        have hB19 := Ext.below hB1 hE17 (by omega)
        have hz20 := hB19.size
        refine ⟨.slice a (xs.length) (c), fun w21 hX22 => od_plain rfl (by have hX22z := hX22.size; exact is_ext (g_move (v := .slice a (xs.length) (c)) rfl)), ?_⟩
        refine ⟨.int .i64 (((k : Nat) : Int)), fun w23 hX24 => od_plain rfl (by have hX24z := hX24.size; exact is_ext (g_move (v := .int .i64 (((k : Nat) : Int))) rfl)), ?_⟩
        refine ⟨.pointer (some ((adr a).add (k * 2))), fun w25 hX26 => od_plain rfl (by have hX26z := hX26.size; exact is_ext (g_index (a := a) (l := (xs.length)) (c := c) (i := ((k : Nat) : Int)) SL24 rfl rfl (Cross_some (i := ((k : Nat) : Int)) (Cells.ext (Cells.below hx hB19 (by omega)) hX26 (by omega)) (by omega) (by omega)) (by omega) (by omega))), ?_⟩
        refine ⟨.agg #[.int .i64 (xs[k]!.1), .bool (xs[k]!.2)], fun w27 hX28 => od_plain rfl (by have hX28z := hX28.size; exact is_ext (g_loadS (q := (adr a).add (k * 2)) (cs := [.int .i64 (xs[k]!.1), .bool (xs[k]!.2)]) AG56 rfl (Cross_all (i := ((k : Nat) : Int)) (Cells.ext (Cells.below hx hB19 (by omega)) hX28 (by omega)) (by omega) (by omega)))), ?_⟩
        refine ⟨.slice b (ys.length) (d), fun w29 hX30 => od_plain rfl (by have hX30z := hX30.size; exact is_ext (g_move (v := .slice b (ys.length) (d)) rfl)), ?_⟩
        refine ⟨.int .i64 (((k : Nat) : Int)), fun w31 hX32 => od_plain rfl (by have hX32z := hX32.size; exact is_ext (g_move (v := .int .i64 (((k : Nat) : Int))) rfl)), ?_⟩
        refine ⟨.pointer (some ((adr b).add (k * 2))), fun w33 hX34 => od_plain rfl (by have hX34z := hX34.size; exact is_ext (g_index (a := b) (l := (ys.length)) (c := d) (i := ((k : Nat) : Int)) SL24 rfl rfl (Cross_some (i := ((k : Nat) : Int)) (Cells.ext (Cells.below hy hB19 (by omega)) hX34 (by omega)) (by omega) (by omega)) (by omega) (by omega))), ?_⟩
        refine ⟨.agg #[.int .i64 (ys[k]!.1), .bool (ys[k]!.2)], fun w35 hX36 => od_plain rfl (by have hX36z := hX36.size; exact is_ext (g_loadS (q := (adr b).add (k * 2)) (cs := [.int .i64 (ys[k]!.1), .bool (ys[k]!.2)]) AG56 rfl (Cross_all (i := ((k : Nat) : Int)) (Cells.ext (Cells.below hy hB19 (by omega)) hX36 (by omega)) (by omega) (by omega)))), ?_⟩
        refine ⟨.bool (decide (xs[k]! = ys[k]!)), fun w37 hX38 => od_plain rfl (by have hX38z := hX38.size; exact (g_call (vs := #[.agg #[.int .i64 (xs[k]!.1), .bool (xs[k]!.2)], .agg #[.int .i64 (ys[k]!.1), .bool (ys[k]!.2)]]) CF52 (args2 rfl rfl) (eqCross_fn (xs[k]!) (ys[k]!)))), ?_⟩
        refine ⟨.bool (!(decide (xs[k]! = ys[k]!))), fun w39 hX40 => od_plain rfl (by have hX40z := hX40.size; exact is_ext (g_not (a := (decide (xs[k]! = ys[k]!))) rfl)), ?_⟩
        intro w41 hX42
        have hs43 := hX42.size
        have hB44 := Ext.below hB19 hX42 (by omega)
        have hz45 := hB44.size
        refine hK15 _ _ ?_
        refine w_cond (b := (!(decide (xs[k]! = ys[k]!)))) rfl (fun h46 => ?_) (fun h46 => ?_)
        · replace h46 := (fun h => of_decide_eq_false (bt_not h)) h46
          refine w_seq fun K47 hK47 => ?_
          refine w_region ?_
          refine wl_val (g_assign (v := .bool (false)) rfl) rfl ?_
          refine wl_nil ?_
          refine hK47 _ _ ?_
          refine w_ret ?_
          exact ret1 rfl (by decide) ⟨congrArg Value.bool (decide_eq_false (fun h => (show ¬ xs[k]! = ys[k]! from by simpa using h46) (by rw [h]))).symm, toExt hB44⟩
        · replace h46 := (fun h => of_decide_eq_true (bf_not h)) h46
          refine w_skip ?_
          refine hK14 _ _ ?_
          refine w_region ?_
          refine wl_val (g_move (v := .int .i64 (((k : Nat) : Int))) rfl) rfl ?_
          refine wl_val (g_add (a := ((k : Nat) : Int)) (b := 1) rfl rfl ⟨by omega, by omega⟩) rfl ?_
          refine wl_val (g_assign (v := .int .i64 ((((k : Nat) : Int) + 1))) rfl) rfl ?_
          refine wl_nil ?_
          exact ⟨(k + 1), (by first | omega | (dsimp only; omega)), ⟨rfl, rfl, rfl, trivial⟩, ⟨by omega, by rw [take_snoc! xs k (by omega), take_snoc! ys k (by omega), ht, (show xs[k]! = ys[k]! from by simpa using h46)], hB44⟩⟩
      · refine w_exit ?_
        refine hK6 _ _ ?_
        refine w_seq fun K48 hK48 => ?_
        refine w_region ?_
        refine wl_val (g_assign (v := .bool (true)) rfl) rfl ?_
        refine wl_nil ?_
        refine hK48 _ _ ?_
        refine w_ret ?_
        exact ret1 rfl (by decide) ⟨congrArg Value.bool (decide_eq_true (all_eq hle ht (by omega))).symm, toExt hB1⟩
theorem markCrossS_fn {B : Nat} {a : Option Addr} {c n : Nat} {xs : List Cross} (k : Int) {w : World} (hx : Own w B 56 2 a n c (xs.flatMap crC)) (hlen : xs.length = n) (hl : n ≤ 1099511627776) (h0 : 0 ≤ k) (h1 : k ≤ 1099511627776) :
    Fn Try.prog 19 #[.slice a (n) (c), .int .i64 (k)] w (fun v w' => v = .int .i64 (k + 2 * ((n : Nat) : Int)) ∧ Own w' B 56 2 a n c ((mkC k n).flatMap crC) ∧ Chg w w' (blk a)) := by
  refine fn_of_wp Try.func19 rfl (by kernel_rfl) (Nat.le_of_ble_eq_true rfl) ?_
  have hB0 := Below.refl w.heap.size w
  have hz0 := hB0.size
  refine w_seq fun K1 hK1 => ?_
  refine w_region ?_
  refine wl_val (g_assign (v := .int .i64 (0)) rfl) rfl ?_
  refine wl_nil ?_
  refine hK1 _ _ ?_
  refine w_seq fun K2 hK2 => ?_
  refine w_seq fun K3 hK3 => ?_
  refine w_region ?_
  refine wl_val (g_assign (v := .int .i64 (0)) rfl) rfl ?_
  refine wl_nil ?_
  refine hK3 _ _ ?_
  refine w_block ?_
  refine w_for (σ := Nat × List Cross) (fun ⟨i, l⟩ => [(0, .slice a (n) (c)), (1, .int .i64 ((k + 2 * ((i : Nat) : Int)))), (5, .int .i64 (((i : Nat) : Int)))]) (fun ⟨i, l⟩ w' => (i ≤ n) ∧ (l.length = n) ∧ (l.take i = (mkC k n).take i) ∧ (Own w' B 56 2 a n c (l.flatMap crC)) ∧ (Chg w w' (blk a))) (fun ⟨i, l⟩ => n - i) (0, xs) ⟨rfl, congrArg (Value.int .i64) (by omega), rfl, trivial⟩ ?_ ?_
  · exact ⟨Nat.zero_le _, hlen, rfl, hx, (Ext.refl w).chg _⟩
  · rintro ⟨i, l⟩ b6 w4 ⟨hi, hll, ht, hO, hB1⟩
    show Wp _ _ _ _ (upds b6 [(0, .slice a (n) (c)), (1, .int .i64 ((k + 2 * ((i : Nat) : Int)))), (5, .int .i64 (((i : Nat) : Int)))]) w4
    have hz1 := hB1.size
    refine w_seq fun K7 hK7 => ?_
    refine w_seq fun K8 hK8 => ?_
    refine w_region ?_
    refine wl_val (g_move (v := .int .i64 (((i : Nat) : Int))) rfl) rfl ?_
    refine wl_val (g_move (v := .slice a (n) (c)) rfl) rfl ?_
    refine wl_val (g_len' (a := a) (l := n) (c := c) SL24 rfl) rfl ?_
    refine wl_val (g_lss (a := ((i : Nat) : Int)) (b := ((n : Nat) : Int)) rfl rfl) rfl ?_
    refine wl_nil ?_
    refine hK8 _ _ ?_
    refine w_cond_d (p := ((i : Nat) : Int) < ((n : Nat) : Int)) rfl (fun h9 => ?_) (fun h9 => ?_)
    · refine w_skip ?_
      refine hK7 _ _ ?_
      refine w_seq fun K10 hK10 => ?_
      refine w_block ?_
      refine w_seq fun K11 hK11 => ?_
      refine w_region ?_
      refine wl_val (g_move (v := .slice a (n) (c)) rfl) rfl ?_
      refine wl_val (g_move (v := .int .i64 (((i : Nat) : Int))) rfl) rfl ?_
      refine wl_val (g_move (v := .int .i64 ((k + 2 * ((i : Nat) : Int)))) rfl) rfl ?_
      refine wl_val (g_index (a := a) (l := n) (c := c) (i := ((i : Nat) : Int)) SL24 rfl rfl (Cross_some (i := ((i : Nat) : Int)) (Own.cells hO) (by omega) (by first | omega | (simp; omega))) (by omega) (by omega)) rfl ?_
      refine wl_val (g_fieldAddr (q := (adr a).add (i * 2)) FL56_0 ON3 rfl) rfl ?_
      refine wl_step rfl (g_store_fld (enc := crC) (xs := l) (i := i) (j := 0) (v := ((k + 2 * ((i : Nat) : Int)), l[i]!.2)) hO crC_len ON3 (by decide) rfl rfl rfl rfl (by first | omega | (simp; omega)) rfl) ?_
      rintro _ w12 ⟨rfl, hO14, hC13⟩
      have hs15 := hC13.size
      have hch16 := Chg.trans hB1 hC13
      refine wl_nil ?_
      refine hK11 _ _ ?_
      refine w_seq fun K17 hK17 => ?_
      refine w_region ?_
      refine wl_val (g_move (v := .int .i64 ((k + 2 * ((i : Nat) : Int)))) rfl) rfl ?_
      refine wl_val (g_add (a := (k + 2 * ((i : Nat) : Int))) (b := 1) rfl rfl ⟨by omega, by omega⟩) rfl ?_
      refine wl_val (g_assign (v := .int .i64 (((k + 2 * ((i : Nat) : Int)) + 1))) rfl) rfl ?_
      refine wl_nil ?_
      refine hK17 _ _ ?_
      refine w_seq fun K18 hK18 => ?_
      refine w_region ?_
      refine wl_val (g_move (v := .slice a (n) (c)) rfl) rfl ?_
      refine wl_val (g_move (v := .int .i64 (((i : Nat) : Int))) rfl) rfl ?_
      refine wl_val (g_move (v := .int .i64 (((k + 2 * ((i : Nat) : Int)) + 1))) rfl) rfl ?_
      refine wl_val (g_rem (a := ((k + 2 * ((i : Nat) : Int)) + 1)) (b := 3) rfl rfl (by decide)) rfl ?_
      refine wl_val (g_eql (a := (Int.tmod (((k + 2 * ((i : Nat) : Int)) + 1)) 3)) (b := 0) rfl rfl) rfl ?_
      refine wl_val (g_index (a := a) (l := n) (c := c) (i := ((i : Nat) : Int)) SL24 rfl rfl (Cross_some (i := ((i : Nat) : Int)) (Own.cells hO14) (by omega) (by first | omega | (simp; omega))) (by omega) (by omega)) rfl ?_
      refine wl_val (g_fieldAddr (q := (adr a).add (i * 2)) FL56_1 ON4 rfl) rfl ?_
      refine wl_step rfl (g_store_fld (enc := crC) (xs := ((l.set i (((k + 2 * ((i : Nat) : Int)), l[i]!.2))))) (i := i) (j := 1) (v := (((l.set i (((k + 2 * ((i : Nat) : Int)), l[i]!.2))))[i]!.1, decide ((Int.tmod (((k + 2 * ((i : Nat) : Int)) + 1)) 3) = 0))) hO14 crC_len ON4 (by decide) rfl rfl rfl rfl (by first | omega | (simp; omega)) rfl) ?_
      rintro _ w19 ⟨rfl, hO21, hC20⟩
      have hs22 := hC20.size
      have hch23 := Chg.trans hch16 hC20
      refine wl_nil ?_
      refine hK18 _ _ ?_
      refine w_region ?_
      refine wl_val (g_move (v := .int .i64 (((k + 2 * ((i : Nat) : Int)) + 1))) rfl) rfl ?_
      refine wl_val (g_add (a := ((k + 2 * ((i : Nat) : Int)) + 1)) (b := 1) rfl rfl ⟨by omega, by omega⟩) rfl ?_
      refine wl_val (g_assign (v := .int .i64 ((((k + 2 * ((i : Nat) : Int)) + 1) + 1))) rfl) rfl ?_
      refine wl_nil ?_
      refine hK10 _ _ ?_
      refine w_region ?_
      refine wl_val (g_move (v := .int .i64 (((i : Nat) : Int))) rfl) rfl ?_
      refine wl_val (g_add (a := ((i : Nat) : Int)) (b := 1) rfl rfl ⟨by omega, by omega⟩) rfl ?_
      refine wl_val (g_assign (v := .int .i64 ((((i : Nat) : Int) + 1))) rfl) rfl ?_
      refine wl_nil ?_
      exact ⟨(i + 1, (((l.set i (((k + 2 * ((i : Nat) : Int)), l[i]!.2)))).set i ((((l.set i (((k + 2 * ((i : Nat) : Int)), l[i]!.2))))[i]!.1, decide ((Int.tmod (((k + 2 * ((i : Nat) : Int)) + 1)) 3) = 0))))), (by first | omega | (dsimp only; omega)), ⟨rfl, congrArg (Value.int .i64) (by omega), rfl, trivial⟩, ⟨by omega, by simp; omega, mark_step (by rw [mkC_len]; omega) (by rw [mkC_len]; omega) ht (mkC_get k n i (by omega)), hO21, hch23⟩⟩
    · refine w_exit ?_
      refine hK2 _ _ ?_
      refine w_seq fun K24 hK24 => ?_
      refine w_region ?_
      refine wl_val (g_move (v := .int .i64 ((k + 2 * ((i : Nat) : Int)))) rfl) rfl ?_
      refine wl_val (g_assign (v := .int .i64 ((k + 2 * ((i : Nat) : Int)))) rfl) rfl ?_
      refine wl_nil ?_
      refine hK24 _ _ ?_
      refine w_ret ?_
      have hlx : l = mkC k n := all_take (by rw [mkC_len]; omega) ht (by rw [mkC_len]; omega)
      subst hlx
      exact ret1 rfl (by decide) ⟨congrArg (Value.int .i64) (by rw [show i = n by omega]), hO, hB1⟩
theorem heldCrossS_fn {lo hi : Nat} {a : Option Addr} {c : Nat} (k : Int) (n : Nat) {w : World} (hx : Cells lo hi w a ((mkC k n).flatMap crC)) (hhi : hi ≤ w.heap.size) (hl : n ≤ 1099511627776) (h0 : 0 ≤ k) (h1 : k ≤ 1099511627776) :
    Fn Try.prog 20 #[.slice a (n) (c), .int .i64 (k)] w (RetV w (.int .i64 (k + 2 * ((n : Nat) : Int)))) := by
  refine fn_of_wp Try.func20 rfl (by kernel_rfl) (Nat.le_of_ble_eq_true rfl) ?_
  have hB0 := Below.refl w.heap.size w
  have hz0 := hB0.size
  have hml := mkC_len k n
  refine w_seq fun K1 hK1 => ?_
  refine w_region ?_
  refine wl_val (g_assign (v := .int .i64 (0)) rfl) rfl ?_
  refine wl_nil ?_
  refine hK1 _ _ ?_
  refine w_seq fun K2 hK2 => ?_
  refine w_seq fun K3 hK3 => ?_
  refine w_region ?_
  refine wl_val (g_assign (v := .int .i64 (0)) rfl) rfl ?_
  refine wl_nil ?_
  refine hK3 _ _ ?_
  refine w_block ?_
  refine w_for (σ := Nat) (fun i => [(0, .slice a (n) (c)), (1, .int .i64 ((k + 2 * ((i : Nat) : Int)))), (5, .int .i64 (((i : Nat) : Int)))]) (fun i w' => (i ≤ n) ∧ (Below w.heap.size w w')) (fun i => n - i) (0) ⟨rfl, congrArg (Value.int .i64) (by omega), rfl, trivial⟩ ?_ ?_
  · exact ⟨Nat.zero_le _, hB0⟩
  · rintro i b6 w4 ⟨hi, hB1⟩
    show Wp _ _ _ _ (upds b6 [(0, .slice a (n) (c)), (1, .int .i64 ((k + 2 * ((i : Nat) : Int)))), (5, .int .i64 (((i : Nat) : Int)))]) w4
    have hB1z := hB1.size
    refine w_seq fun K7 hK7 => ?_
    refine w_seq fun K8 hK8 => ?_
    refine w_region ?_
    refine wl_val (g_move (v := .int .i64 (((i : Nat) : Int))) rfl) rfl ?_
    refine wl_val (g_move (v := .slice a (n) (c)) rfl) rfl ?_
    refine wl_val (g_len' (a := a) (l := n) (c := c) SL24 rfl) rfl ?_
    refine wl_val (g_lss (a := ((i : Nat) : Int)) (b := ((n : Nat) : Int)) rfl rfl) rfl ?_
    refine wl_nil ?_
    refine hK8 _ _ ?_
    refine w_cond_d (p := ((i : Nat) : Int) < ((n : Nat) : Int)) rfl (fun h9 => ?_) (fun h9 => ?_)
    · refine w_skip ?_
      refine hK7 _ _ ?_
      refine w_seq fun K10 hK10 => ?_
      refine w_block ?_
      refine w_seq fun K11 hK11 => ?_
      refine w_seq fun K12 hK12 => ?_
      refine w_region ?_
      refine wl_val (g_move (v := .slice a (n) (c)) rfl) rfl ?_
      refine wl_val (g_move (v := .int .i64 (((i : Nat) : Int))) rfl) rfl ?_
      refine wl_val (g_index (a := a) (l := n) (c := c) (i := ((i : Nat) : Int)) SL24 rfl rfl (Cross_some (i := ((i : Nat) : Int)) (Cells.below hx hB1 (by omega)) (by omega) (by omega)) (by omega) (by omega)) rfl ?_
      refine wl_val (g_fieldAddr (q := (adr a).add (i * 2)) FL56_0 ON3 rfl) rfl ?_
      refine wl_val (g_load1 (q := ((adr a).add (i * 2)).add 0) (v := .int .i64 (((mkC k n))[i]!.1)) ON3 rfl (Cross_c0 (i := ((i : Nat) : Int)) (Cells.below hx hB1 (by omega)) (by omega) (by omega))) rfl ?_
      refine wl_val (g_move (v := .int .i64 ((k + 2 * ((i : Nat) : Int)))) rfl) rfl ?_
      refine wl_val (g_neq (a := ((mkC k n))[i]!.1) (b := (k + 2 * ((i : Nat) : Int))) rfl rfl) rfl ?_
      refine wl_nil ?_
      refine hK12 _ _ ?_
      refine w_cond_d (p := ((mkC k n))[i]!.1 ≠ (k + 2 * ((i : Nat) : Int))) rfl (fun h13 => ?_) (fun h13 => ?_)
      · refine w_seq fun K14 hK14 => ?_
        refine w_region ?_
        refine wl_val (g_assign (v := .int .i64 ((-1))) rfl) rfl ?_
        refine wl_nil ?_
        refine hK14 _ _ ?_
        refine w_ret ?_
        exact absurd (mkC_fst k n i (by omega)) h13
      · refine w_skip ?_
        refine hK11 _ _ ?_
        refine w_seq fun K15 hK15 => ?_
        refine w_region ?_
        refine wl_val (g_move (v := .int .i64 ((k + 2 * ((i : Nat) : Int)))) rfl) rfl ?_
        refine wl_val (g_add (a := (k + 2 * ((i : Nat) : Int))) (b := 1) rfl rfl ⟨by omega, by omega⟩) rfl ?_
        refine wl_val (g_assign (v := .int .i64 (((k + 2 * ((i : Nat) : Int)) + 1))) rfl) rfl ?_
        refine wl_nil ?_
        refine hK15 _ _ ?_
        refine w_seq fun K16 hK16 => ?_
        refine w_seq fun K17 hK17 => ?_
        refine w_region ?_
        refine wl_val (g_move (v := .slice a (n) (c)) rfl) rfl ?_
        refine wl_val (g_move (v := .int .i64 (((i : Nat) : Int))) rfl) rfl ?_
        refine wl_val (g_index (a := a) (l := n) (c := c) (i := ((i : Nat) : Int)) SL24 rfl rfl (Cross_some (i := ((i : Nat) : Int)) (Cells.below hx hB1 (by omega)) (by omega) (by omega)) (by omega) (by omega)) rfl ?_
        refine wl_val (g_fieldAddr (q := (adr a).add (i * 2)) FL56_1 ON4 rfl) rfl ?_
        refine wl_val (g_load1 (q := ((adr a).add (i * 2)).add 1) (v := .bool (((mkC k n))[i]!.2)) ON4 rfl (Cross_c1 (i := ((i : Nat) : Int)) (Cells.below hx hB1 (by omega)) (by omega) (by omega))) rfl ?_
        refine wl_val (g_move (v := .int .i64 (((k + 2 * ((i : Nat) : Int)) + 1))) rfl) rfl ?_
        refine wl_val (g_rem (a := ((k + 2 * ((i : Nat) : Int)) + 1)) (b := 3) rfl rfl (by decide)) rfl ?_
        refine wl_val (g_eql (a := (Int.tmod (((k + 2 * ((i : Nat) : Int)) + 1)) 3)) (b := 0) rfl rfl) rfl ?_
        refine wl_val (g_neq_b (a := (((mkC k n))[i]!.2)) (b := (decide ((Int.tmod (((k + 2 * ((i : Nat) : Int)) + 1)) 3) = 0))) UB rfl rfl) rfl ?_
        refine wl_nil ?_
        refine hK17 _ _ ?_
        refine w_cond_d (p := (((mkC k n))[i]!.2) ≠ (decide ((Int.tmod (((k + 2 * ((i : Nat) : Int)) + 1)) 3) = 0))) rfl (fun h18 => ?_) (fun h18 => ?_)
        · refine w_seq fun K19 hK19 => ?_
          refine w_region ?_
          refine wl_val (g_assign (v := .int .i64 ((-1))) rfl) rfl ?_
          refine wl_nil ?_
          refine hK19 _ _ ?_
          refine w_ret ?_
          exact absurd (mkC_snd k n i (by omega)) h18
        · refine w_skip ?_
          refine hK16 _ _ ?_
          refine w_region ?_
          refine wl_val (g_move (v := .int .i64 (((k + 2 * ((i : Nat) : Int)) + 1))) rfl) rfl ?_
          refine wl_val (g_add (a := ((k + 2 * ((i : Nat) : Int)) + 1)) (b := 1) rfl rfl ⟨by omega, by omega⟩) rfl ?_
          refine wl_val (g_assign (v := .int .i64 ((((k + 2 * ((i : Nat) : Int)) + 1) + 1))) rfl) rfl ?_
          refine wl_nil ?_
          refine hK10 _ _ ?_
          refine w_region ?_
          refine wl_val (g_move (v := .int .i64 (((i : Nat) : Int))) rfl) rfl ?_
          refine wl_val (g_add (a := ((i : Nat) : Int)) (b := 1) rfl rfl ⟨by omega, by omega⟩) rfl ?_
          refine wl_val (g_assign (v := .int .i64 ((((i : Nat) : Int) + 1))) rfl) rfl ?_
          refine wl_nil ?_
          exact ⟨(i + 1), (by first | omega | (dsimp only; omega)), ⟨rfl, congrArg (Value.int .i64) (by omega), rfl, trivial⟩, ⟨by omega, hB1⟩⟩
    · refine w_exit ?_
      refine hK2 _ _ ?_
      refine w_seq fun K20 hK20 => ?_
      refine w_region ?_
      refine wl_val (g_move (v := .int .i64 ((k + 2 * ((i : Nat) : Int)))) rfl) rfl ?_
      refine wl_val (g_assign (v := .int .i64 ((k + 2 * ((i : Nat) : Int)))) rfl) rfl ?_
      refine wl_nil ?_
      refine hK20 _ _ ?_
      refine w_ret ?_
      exact ret1 rfl (by decide) ⟨congrArg (Value.int .i64) (by rw [show i = n by omega]), toExt hB1⟩
theorem specJoin_fn {lo hi lo2 hi2 : Nat} {a b : Option Addr} {c d : Nat} {xs ys : List Cross} {w : World} (hx : Cells lo hi w a (xs.flatMap crC)) (hy : Cells lo2 hi2 w b (ys.flatMap crC)) (hn : a = none → c = 0) (hn2 : b = none → d = 0) (hhi : hi ≤ w.heap.size) (hhi2 : hi2 ≤ w.heap.size) (hl : xs.length ≤ 1099511627776) (hl2 : ys.length ≤ 1099511627776) :
    Fn Try.prog 15 #[.slice a (xs.length) (c), .slice b (ys.length) (d)] w (RetS w 56 2 (xs ++ ys).length ((xs ++ ys).flatMap crC)) := by
  refine fn_of_wp Try.func15 rfl (by kernel_rfl) (Nat.le_of_ble_eq_true rfl) ?_
  have hB0 := Below.refl w.heap.size w
  have hz0 := hB0.size
  refine w_seq fun K1 hK1 => ?_
  refine w_region ?_
  refine wl_val (g_assign (v := .slice none (0) (0)) rfl) rfl ?_
  refine wl_nil ?_
  refine hK1 _ _ ?_
  refine w_seq fun K2 hK2 => ?_
  refine w_region ?_
  refine wl_step rfl (g_bslice0  SL24 ) ?_
  rintro _ w3 ⟨a4, rfl, hO5, hE6⟩
  have hO5 : Own _ _ _ _ a4 0 0 (([]).flatMap crC) := hO5
  have hs7 := hE6.size
  have hB8 := Ext.below hB0 hE6 (by omega)
  have hz9 := hB8.size
  refine wl_val (g_move (v := .slice a (xs.length) (c)) rfl) rfl ?_
  refine wl_step rfl (g_append SL24 rfl rfl hO5 (Cells.below hx hB8 (by omega)) (rec_length crC_len _) hn (ones_rec crC_one) (by unfold maxLen; first | omega | (simp; omega)) (by first | omega | (simp; omega)) (by omega)) ?_
  rintro _ w10 ⟨a11, c12, rfl, hO13, hC14, hF15⟩
  rw [← List.flatMap_append] at hO13
  rw [Nat.zero_add] at hO13 ⊢
  rw [List.nil_append] at hO13
  have hs16 := hC14.size
  have hB17 := Chg.below hB8 hC14 (by omega) (fun k hk => by have := hO5.lt k hk; omega)
  have hz18 := hB17.size
  refine wl_val (g_move (v := .slice b (ys.length) (d)) rfl) rfl ?_
  refine wl_step rfl (g_append SL24 rfl rfl hO13 (Cells.below hy hB17 (by omega)) (rec_length crC_len _) hn2 (ones_rec crC_one) (by unfold maxLen; first | omega | (simp; omega)) (by first | omega | (simp; omega)) (by omega)) ?_
  rintro _ w20 ⟨a21, c22, rfl, hO23, hC24, hF25⟩
  rw [← List.flatMap_append] at hO23
  have hs26 := hC24.size
  have hB27 := Chg.below hB17 hC24 (by omega) (fun k hk => by have := hO13.lt k hk; omega)
  have hz28 := hB27.size
  refine wl_val (g_assign (v := .slice a21 (xs.length + ys.length) (c22)) rfl) rfl ?_
  refine wl_nil ?_
  refine hK2 _ _ ?_
  refine w_ret ?_
  exact ret1 rfl (by decide) ⟨a21, c22, (by rw [List.length_append]; rfl), hO23.nil0, (by rw [List.length_append]; exact hO23), toExt hB27⟩
theorem implJoin_fn {lo hi lo2 hi2 : Nat} {a b : Option Addr} {c d : Nat} {xs ys : List Cross} {w : World} (hx : Cells lo hi w a (xs.flatMap crC)) (hy : Cells lo2 hi2 w b (ys.flatMap crC)) (hn : a = none → c = 0) (hn2 : b = none → d = 0) (hhi : hi ≤ w.heap.size) (hhi2 : hi2 ≤ w.heap.size) (hl : xs.length ≤ 1099511627776) (hl2 : ys.length ≤ 1099511627776) :
    Fn Try.prog 17 #[.slice a (xs.length) (c), .slice b (ys.length) (d)] w (RetS w 56 2 (xs ++ ys).length ((xs ++ ys).flatMap crC)) := by
  refine fn_of_wp Try.func17 rfl (by kernel_rfl) (Nat.le_of_ble_eq_true rfl) ?_
  have hB0 := Below.refl w.heap.size w
  have hz0 := hB0.size
  refine w_seq fun K1 hK1 => ?_
  refine w_region ?_
  refine wl_val (g_assign (v := .slice none (0) (0)) rfl) rfl ?_
  refine wl_nil ?_
  refine hK1 _ _ ?_
  refine w_seq fun K2 hK2 => ?_
  refine w_region ?_
  refine wl_step rfl (g_bslice0  SL24 ) ?_
  rintro _ w3 ⟨a4, rfl, hO5, hE6⟩
  have hO5 : Own _ _ _ _ a4 0 0 (([]).flatMap crC) := hO5
  have hs7 := hE6.size
  have hB8 := Ext.below hB0 hE6 (by omega)
  have hz9 := hB8.size
  refine wl_val (g_move (v := .slice a (xs.length) (c)) rfl) rfl ?_
  refine wl_step rfl (g_append SL24 rfl rfl hO5 (Cells.below hx hB8 (by omega)) (rec_length crC_len _) hn (ones_rec crC_one) (by unfold maxLen; first | omega | (simp; omega)) (by first | omega | (simp; omega)) (by omega)) ?_
  rintro _ w10 ⟨a11, c12, rfl, hO13, hC14, hF15⟩
  rw [← List.flatMap_append] at hO13
  rw [Nat.zero_add] at hO13 ⊢
  rw [List.nil_append] at hO13
  have hs16 := hC14.size
  have hB17 := Chg.below hB8 hC14 (by omega) (fun k hk => by have := hO5.lt k hk; omega)
  have hz18 := hB17.size
  refine wl_val (g_move (v := .slice b (ys.length) (d)) rfl) rfl ?_
  refine wl_step rfl (g_append SL24 rfl rfl hO13 (Cells.below hy hB17 (by omega)) (rec_length crC_len _) hn2 (ones_rec crC_one) (by unfold maxLen; first | omega | (simp; omega)) (by first | omega | (simp; omega)) (by omega)) ?_
  rintro _ w20 ⟨a21, c22, rfl, hO23, hC24, hF25⟩
  rw [← List.flatMap_append] at hO23
  have hs26 := hC24.size
  have hB27 := Chg.below hB17 hC24 (by omega) (fun k hk => by have := hO13.lt k hk; omega)
  have hz28 := hB27.size
  refine wl_val (g_assign (v := .slice a21 (xs.length + ys.length) (c22)) rfl) rfl ?_
  refine wl_nil ?_
  refine hK2 _ _ ?_
  refine w_ret ?_
  exact ret1 rfl (by decide) ⟨a21, c22, (by rw [List.length_append]; rfl), hO23.nil0, (by rw [List.length_append]; exact hO23), toExt hB27⟩
theorem specFull_fn (n i k : Int) (f : Bool) {w : World} :
    Fn Try.prog 21 #[.int .i64 (n), .int .i64 (i), .int .i64 (k), .bool (f)] w (RetSB w 56 2 (ftR n i k f).length ((ftR n i k f).flatMap crC) (ftOk n i k)) := by
  refine fn_of_wp Try.func21 rfl (by kernel_rfl) (Nat.le_of_ble_eq_true rfl) ?_
  have hB0 := Below.refl w.heap.size w
  have hz0 := hB0.size
  refine w_seq fun K1 hK1 => ?_
  refine w_region ?_
  refine wl_val (g_assign (v := .slice none (0) (0)) rfl) rfl ?_
  refine wl_val (g_assign (v := .bool (false)) rfl) rfl ?_
  refine wl_nil ?_
  refine hK1 _ _ ?_
  refine w_seq fun K2 hK2 => ?_
  refine w_region ?_
  refine wl_step rfl (g_bslice0  SL24 ) ?_
  rintro _ w3 ⟨a4, rfl, hO5, hE6⟩
  have hO5 : Own _ _ _ _ a4 0 0 (([]).flatMap crC) := hO5
  have hs7 := hE6.size
  have hB8 := Ext.below hB0 hE6 (by omega)
  have hz9 := hB8.size
  refine wl_val (g_assign (v := .slice a4 (0) (0)) rfl) rfl ?_
  refine wl_nil ?_
  refine hK2 _ _ ?_
  refine w_seq fun K10 hK10 => ?_
  refine w_seq fun K11 hK11 => ?_
  refine w_region ?_
  refine wl_val (g_move (v := .int .i64 (n)) rfl) rfl ?_
  refine wl_step rfl (g_call (vs := #[.int .i64 (n), .int .i64 (2), .int .i64 (7)]) CF53 (args3 rfl rfl rfl) (specIn_fn n 2 7)) ?_
  rintro _ w12 ⟨rfl, hE13⟩
  have hs14 := hE13.size
  have hB15 := Ext.below hB8 hE13 (by omega)
  have hz16 := hB15.size
  have hout17 := hO5.ext hE13
  refine wl_val (g_not (a := (decide (2 ≤ n ∧ n ≤ 7))) rfl) rfl ?_
  refine wl_val (g_move (v := .bool (!(decide (2 ≤ n ∧ n ≤ 7)))) rfl) rfl ?_
  refine wl_guard (c := (!(decide (2 ≤ n ∧ n ≤ 7))) = false) (val := .int .i64 (k)) (b := ((!(decide (2 ≤ n ∧ n ≤ 7))) == false)) (gv_some rfl rfl rfl) beq_iff_eq (fun hg18 => ?_) ?_
  · have hg18p := (fun h => of_decide_eq_true (bf_not h)) hg18
    exact g_move (v := .int .i64 (k)) rfl
  refine wl_guard (c := (!(decide (2 ≤ n ∧ n ≤ 7))) = false) (val := .int .i64 (n)) (b := ((!(decide (2 ≤ n ∧ n ≤ 7))) == false)) (gv_some rfl rfl rfl) beq_iff_eq (fun hg19 => ?_) ?_
  · have hg19p := (fun h => of_decide_eq_true (bf_not h)) hg19
    exact g_move (v := .int .i64 (n)) rfl
  refine wl_guard (c := (!(decide (2 ≤ n ∧ n ≤ 7))) = false) (val := .int .i64 ((n - 1))) (b := ((!(decide (2 ≤ n ∧ n ≤ 7))) == false)) (gv_some rfl rfl rfl) beq_iff_eq (fun hg20 => ?_) ?_
  · have hg20p := (fun h => of_decide_eq_true (bf_not h)) hg20
    exact g_sub (a := n) (b := 1) (if_pos (e := undef) hg20) rfl ⟨by omega, by omega⟩
  refine wl_guardE (X := Ext) (c := (!(decide (2 ≤ n ∧ n ≤ 7))) = false) (val := .bool (decide (1 ≤ k ∧ k ≤ (n - 1)))) (b := ((!(decide (2 ≤ n ∧ n ≤ 7))) == false)) (Ext.refl _) (gv_some rfl rfl rfl) beq_iff_eq (fun hg21 => ?_) (fun w22 hE23 => ?_)
  · have hg21p := (fun h => of_decide_eq_true (bf_not h)) hg21
    exact g_call (vs := #[.int .i64 (k), .int .i64 (1), .int .i64 ((n - 1))]) CF53 (args3 (if_pos (e := undef) hg21) rfl (if_pos (e := undef) hg21)) (specIn_fn k 1 ((n - 1)))
  have hs24 := hE23.size
  have hB25 := Ext.below hB15 hE23 (by omega)
  have hz26 := hB25.size
  have hout27 := hout17.ext hE23
  refine wl_guard (c := (!(decide (2 ≤ n ∧ n ≤ 7))) = false) (val := .bool (!(decide (1 ≤ k ∧ k ≤ (n - 1))))) (b := ((!(decide (2 ≤ n ∧ n ≤ 7))) == false)) (gv_some rfl rfl rfl) beq_iff_eq (fun hg28 => ?_) ?_
  · have hg28p := (fun h => of_decide_eq_true (bf_not h)) hg28
    exact g_not (a := (decide (1 ≤ k ∧ k ≤ (n - 1)))) (if_pos (e := undef) hg28)
  refine wl_val (g_pick_or (b := (!(decide (2 ≤ n ∧ n ≤ 7)))) (q := (!(decide (1 ≤ k ∧ k ≤ (n - 1))))) rfl rfl) rfl ?_
  refine wl_val (g_move (v := .bool ((!(decide (2 ≤ n ∧ n ≤ 7)) || !(decide (1 ≤ k ∧ k ≤ (n - 1)))))) rfl) rfl ?_
  refine wl_guard (c := ((!(decide (2 ≤ n ∧ n ≤ 7)) || !(decide (1 ≤ k ∧ k ≤ (n - 1))))) = false) (val := .int .i64 (i)) (b := (((!(decide (2 ≤ n ∧ n ≤ 7)) || !(decide (1 ≤ k ∧ k ≤ (n - 1))))) == false)) (gv_some rfl rfl rfl) beq_iff_eq (fun hg29 => ?_) ?_
  · have hg29p := (fun h => And.imp (fun h => of_decide_eq_true (bf_not h)) (fun h => of_decide_eq_true (bf_not h)) (bf_or h)) hg29
    exact g_move (v := .int .i64 (i)) rfl
  refine wl_guard (c := ((!(decide (2 ≤ n ∧ n ≤ 7)) || !(decide (1 ≤ k ∧ k ≤ (n - 1))))) = false) (val := .int .i64 (k)) (b := (((!(decide (2 ≤ n ∧ n ≤ 7)) || !(decide (1 ≤ k ∧ k ≤ (n - 1))))) == false)) (gv_some rfl rfl rfl) beq_iff_eq (fun hg30 => ?_) ?_
  · have hg30p := (fun h => And.imp (fun h => of_decide_eq_true (bf_not h)) (fun h => of_decide_eq_true (bf_not h)) (bf_or h)) hg30
    exact g_move (v := .int .i64 (k)) rfl
  refine wl_guard (c := ((!(decide (2 ≤ n ∧ n ≤ 7)) || !(decide (1 ≤ k ∧ k ≤ (n - 1))))) = false) (val := .int .i64 ((k - 1))) (b := (((!(decide (2 ≤ n ∧ n ≤ 7)) || !(decide (1 ≤ k ∧ k ≤ (n - 1))))) == false)) (gv_some rfl rfl rfl) beq_iff_eq (fun hg31 => ?_) ?_
  · have hg31p := (fun h => And.imp (fun h => of_decide_eq_true (bf_not h)) (fun h => of_decide_eq_true (bf_not h)) (bf_or h)) hg31
    exact g_sub (a := k) (b := 1) (if_pos (e := undef) hg31) rfl ⟨by omega, by omega⟩
  refine wl_guardE (X := Ext) (c := ((!(decide (2 ≤ n ∧ n ≤ 7)) || !(decide (1 ≤ k ∧ k ≤ (n - 1))))) = false) (val := .bool (decide (0 ≤ i ∧ i ≤ (k - 1)))) (b := (((!(decide (2 ≤ n ∧ n ≤ 7)) || !(decide (1 ≤ k ∧ k ≤ (n - 1))))) == false)) (Ext.refl _) (gv_some rfl rfl rfl) beq_iff_eq (fun hg32 => ?_) (fun w33 hE34 => ?_)
  · have hg32p := (fun h => And.imp (fun h => of_decide_eq_true (bf_not h)) (fun h => of_decide_eq_true (bf_not h)) (bf_or h)) hg32
    exact g_call (vs := #[.int .i64 (i), .int .i64 (0), .int .i64 ((k - 1))]) CF53 (args3 (if_pos (e := undef) hg32) rfl (if_pos (e := undef) hg32)) (specIn_fn i 0 ((k - 1)))
  have hs35 := hE34.size
  have hB36 := Ext.below hB25 hE34 (by omega)
  have hz37 := hB36.size
  have hout38 := hout27.ext hE34
  refine wl_guard (c := ((!(decide (2 ≤ n ∧ n ≤ 7)) || !(decide (1 ≤ k ∧ k ≤ (n - 1))))) = false) (val := .bool (!(decide (0 ≤ i ∧ i ≤ (k - 1))))) (b := (((!(decide (2 ≤ n ∧ n ≤ 7)) || !(decide (1 ≤ k ∧ k ≤ (n - 1))))) == false)) (gv_some rfl rfl rfl) beq_iff_eq (fun hg39 => ?_) ?_
  · have hg39p := (fun h => And.imp (fun h => of_decide_eq_true (bf_not h)) (fun h => of_decide_eq_true (bf_not h)) (bf_or h)) hg39
    exact g_not (a := (decide (0 ≤ i ∧ i ≤ (k - 1)))) (if_pos (e := undef) hg39)
  refine wl_val (g_pick_or (b := ((!(decide (2 ≤ n ∧ n ≤ 7)) || !(decide (1 ≤ k ∧ k ≤ (n - 1)))))) (q := (!(decide (0 ≤ i ∧ i ≤ (k - 1))))) rfl rfl) rfl ?_
  refine wl_nil ?_
  refine hK11 _ _ ?_
  refine w_cond (b := (((!(decide (2 ≤ n ∧ n ≤ 7)) || !(decide (1 ≤ k ∧ k ≤ (n - 1)))) || !(decide (0 ≤ i ∧ i ≤ (k - 1)))))) rfl (fun h40 => ?_) (fun h40 => ?_)
  · replace h40 := (fun h => Or.imp (fun h => Or.imp (fun h => of_decide_eq_false (bt_not h)) (fun h => of_decide_eq_false (bt_not h)) (bt_or h)) (fun h => of_decide_eq_false (bt_not h)) (bt_or h)) h40
    refine w_seq fun K41 hK41 => ?_
    refine w_region ?_
    refine wl_val (g_move (v := .slice a4 (0) (0)) rfl) rfl ?_
    refine wl_val (g_assign (v := .slice a4 (0) (0)) rfl) rfl ?_
    refine wl_val (g_assign (v := .bool (false)) rfl) rfl ?_
    refine wl_nil ?_
    refine hK41 _ _ ?_
    refine w_ret ?_
    obtain ⟨hR, hOk⟩ := ft_no (n := n) (i := i) (k := k) (f := f) (by omega)
    exact ret2 rfl (by decide) (by decide) ⟨a4, 0, (by rw [hR, hOk]; rfl), hout38.nil0, (by rw [hR]; exact hout38.mono (by omega)), toExt hB36⟩
  · replace h40 := (fun h => And.imp (fun h => And.imp (fun h => of_decide_eq_true (bf_not h)) (fun h => of_decide_eq_true (bf_not h)) (bf_or h)) (fun h => of_decide_eq_true (bf_not h)) (bf_or h)) h40
    refine w_skip ?_
    refine hK10 _ _ ?_
    refine w_seq fun K42 hK42 => ?_
    refine w_seq fun K43 hK43 => ?_
    refine w_region ?_
    refine wl_val (g_move (v := .int .i64 (k)) rfl) rfl ?_
    refine wl_val (g_sub (a := k) (b := 1) rfl rfl ⟨by omega, by omega⟩) rfl ?_
    refine wl_val (g_assign (v := .int .i64 ((k - 1))) rfl) rfl ?_
    refine wl_nil ?_
    refine hK43 _ _ ?_
    refine w_block ?_
    have hok : 2 ≤ n ∧ n ≤ 7 ∧ 0 ≤ i ∧ i < k ∧ k < n := by omega
    refine w_for (σ := List Cross × Nat × Int × Option Addr × Nat) (fun ⟨l, m, p, o, oc⟩ => [(0, .int .i64 (n)), (1, .int .i64 (i)), (2, .int .i64 (k)), (3, .bool (f)), (10, .slice o (m) (oc)), (11, .int .i64 (p))]) (fun ⟨l, m, p, o, oc⟩ w' => (i ≤ p) ∧ (p ≤ k - 1) ∧ (m = l.length) ∧ ((m : Int) = k - 1 - p) ∧ (Hid (ftA i (k - 1) (k - 1 - i).toNat = l ++ ftA i p (p - i).toNat)) ∧ (Own w' w.heap.size 56 2 o m oc (l.flatMap crC)) ∧ (Below w.heap.size w w')) (fun ⟨l, m, p, o, oc⟩ => (p - i).toNat) ([], 0, k - 1, a4, 0) ⟨rfl, rfl, rfl, rfl, rfl, rfl, trivial⟩ ?_ ?_
    · exact ⟨by omega, by omega, rfl, by omega, rfl, hout38.mono (by omega), hB36⟩
    · rintro ⟨l, m, p, o, oc⟩ b46 w44 ⟨hp1, hp2, hm, hmp, hr, hO, hB1⟩
      show Wp _ _ _ _ (upds b46 [(0, .int .i64 (n)), (1, .int .i64 (i)), (2, .int .i64 (k)), (3, .bool (f)), (10, .slice o (m) (oc)), (11, .int .i64 (p))]) w44
      have hB1z := hB1.size
      refine w_seq fun K47 hK47 => ?_
      refine w_seq fun K48 hK48 => ?_
      refine w_region ?_
      refine wl_val (g_move (v := .int .i64 (p)) rfl) rfl ?_
      refine wl_val (g_move (v := .int .i64 (i)) rfl) rfl ?_
      refine wl_val (g_gtr (a := p) (b := i) rfl rfl) rfl ?_
      refine wl_nil ?_
      refine hK48 _ _ ?_
      refine w_cond_d (p := p > i) rfl (fun h49 => ?_) (fun h49 => ?_)
      · refine w_skip ?_
        refine hK47 _ _ ?_
        refine w_seq fun K50 hK50 => ?_
        refine w_block ?_
        refine w_region ?_
        refine wl_val (g_move (v := .slice o (m) (oc)) rfl) rfl ?_
        refine wl_val (g_move (v := .int .i64 (p)) rfl) rfl ?_
        refine wl_val (g_build (v := .agg #[.int .i64 (p), .bool (false)]) (parts1 rfl) (BD56_0 p)) rfl ?_
        refine wl_step rfl (g_bslice1 (v := .agg #[.int .i64 (p), .bool (false)]) (vs := [.int .i64 (p), .bool (false)]) SL24 rfl rfl rfl (by decide)) ?_
        rintro _ w51 ⟨a52, rfl, hO53, hE54⟩
        have hO53 : Own _ _ _ _ a52 1 1 (([(p, false)]).flatMap crC) := hO53
        have hs55 := hE54.size
        have hB56 := Ext.below hB1 hE54 (by omega)
        have hz57 := hB56.size
        have hout58 := hO.ext hE54
        refine wl_step rfl (g_append SL24 rfl rfl hout58 (Own.cells hO53) (rec_length crC_len _) hO53.nil0 (ones_rec crC_one) (by unfold maxLen; first | omega | (simp; omega)) (by first | omega | (simp; omega)) (by omega)) ?_
        rintro _ w60 ⟨a61, c62, rfl, hO63, hC64, hF65⟩
        rw [← List.flatMap_append] at hO63
        have hs66 := hC64.size
        have hB67 := Chg.below hB56 hC64 (by omega) (fun k hk => by have := hout58.lt k hk; omega)
        have hz68 := hB67.size
        refine wl_val (g_assign (v := .slice a61 (m + 1) (c62)) rfl) rfl ?_
        refine wl_nil ?_
        refine hK50 _ _ ?_
        refine w_region ?_
        refine wl_val (g_move (v := .int .i64 (p)) rfl) rfl ?_
        refine wl_val (g_sub (a := p) (b := 1) rfl rfl ⟨by omega, by omega⟩) rfl ?_
        refine wl_val (g_assign (v := .int .i64 ((p - 1))) rfl) rfl ?_
        refine wl_nil ?_
        exact ⟨(l ++ [(p, false)], m + 1, p - 1, a61, c62), (by first | omega | (dsimp only; omega)), ⟨rfl, rfl, rfl, rfl, rfl, rfl, trivial⟩, ⟨by omega, by omega, by simp; omega, by omega, ft_nextA hr.out (by omega), hO63, hB67⟩⟩
      · refine w_exit ?_
        refine hK42 _ _ ?_
        refine w_seq fun K70 hK70 => ?_
        refine w_region ?_
        refine wl_val (g_move (v := .slice o (m) (oc)) rfl) rfl ?_
        refine wl_val (g_move (v := .int .i64 (i)) rfl) rfl ?_
        refine wl_val (g_move (v := .bool (f)) rfl) rfl ?_
        refine wl_val (g_build (v := .agg #[.int .i64 (i), .bool (f)]) (parts2 rfl rfl) (BD56_01 i f)) rfl ?_
        refine wl_val (g_move (v := .int .i64 (i)) rfl) rfl ?_
        refine wl_val (g_move (v := .bool (f)) rfl) rfl ?_
        refine wl_val (g_build (v := .agg #[.int .i64 (i), .bool (f)]) (parts2 rfl rfl) (BD56_01 i f)) rfl ?_
        refine wl_step rfl (g_bslice2 (v := .agg #[.int .i64 (i), .bool (f)]) (vs := [.int .i64 (i), .bool (f)]) (u := .agg #[.int .i64 (i), .bool (f)]) (us := [.int .i64 (i), .bool (f)]) SL24 rfl rfl rfl rfl rfl rfl (by decide)) ?_
        rintro _ w71 ⟨a72, rfl, hO73, hE74⟩
        have hO73 : Own _ _ _ _ a72 2 2 (([(i, f), (i, f)]).flatMap crC) := hO73
        have hs75 := hE74.size
        have hB76 := Ext.below hB1 hE74 (by omega)
        have hz77 := hB76.size
        have hout78 := hO.ext hE74
        refine wl_step rfl (g_append SL24 rfl rfl hout78 (Own.cells hO73) (rec_length crC_len _) hO73.nil0 (ones_rec crC_one) (by unfold maxLen; first | omega | (simp; omega)) (by first | omega | (simp; omega)) (by omega)) ?_
        rintro _ w80 ⟨a81, c82, rfl, hO83, hC84, hF85⟩
        rw [← List.flatMap_append] at hO83
        have hs86 := hC84.size
        have hB87 := Chg.below hB76 hC84 (by omega) (fun k hk => by have := hout78.lt k hk; omega)
        have hz88 := hB87.size
        refine wl_val (g_assign (v := .slice a81 (m + 2) (c82)) rfl) rfl ?_
        refine wl_nil ?_
        refine hK70 _ _ ?_
        refine w_seq fun K90 hK90 => ?_
        refine w_seq fun K91 hK91 => ?_
        refine w_region ?_
        refine wl_val (g_move (v := .int .i64 (i)) rfl) rfl ?_
        refine wl_val (g_add (a := i) (b := 1) rfl rfl ⟨by omega, by omega⟩) rfl ?_
        refine wl_val (g_assign (v := .int .i64 ((i + 1))) rfl) rfl ?_
        refine wl_nil ?_
        refine hK91 _ _ ?_
        refine w_block ?_
        refine w_for (σ := List Cross × Nat × Int × Option Addr × Nat) (fun ⟨l2, m2, q, o2, oc2⟩ => [(0, .int .i64 (n)), (1, .int .i64 (i)), (2, .int .i64 (k)), (3, .bool (f)), (10, .slice o2 (m2) (oc2)), (12, .int .i64 (q))]) (fun ⟨l2, m2, q, o2, oc2⟩ w' => (i + 1 ≤ q) ∧ (q ≤ k) ∧ (m2 = l2.length) ∧ ((m2 : Int) = k - 1 - i + 2 + (q - i - 1)) ∧ (Hid (ftL i k f = l2 ++ ftB q (k - q).toNat)) ∧ (Own w' w.heap.size 56 2 o2 m2 oc2 (l2.flatMap crC)) ∧ (Below w.heap.size w w')) (fun ⟨l2, m2, q, o2, oc2⟩ => (k - q).toNat) (l ++ [(i, f), (i, f)], m + 2, i + 1, a81, c82) ⟨rfl, rfl, rfl, rfl, rfl, rfl, trivial⟩ ?_ ?_
        · exact ⟨by omega, by omega, by simp; omega, by omega, ft_doneA hr.out (by omega), hO83, hB87⟩
        · rintro ⟨l2, m2, q, o2, oc2⟩ b94 w92 ⟨hq1, hq2, hm2, hmq, hr2, hO2, hB2⟩
          show Wp _ _ _ _ (upds b94 [(0, .int .i64 (n)), (1, .int .i64 (i)), (2, .int .i64 (k)), (3, .bool (f)), (10, .slice o2 (m2) (oc2)), (12, .int .i64 (q))]) w92
          have hB2z := hB2.size
          refine w_seq fun K95 hK95 => ?_
          refine w_seq fun K96 hK96 => ?_
          refine w_region ?_
          refine wl_val (g_move (v := .int .i64 (q)) rfl) rfl ?_
          refine wl_val (g_move (v := .int .i64 (k)) rfl) rfl ?_
          refine wl_val (g_lss (a := q) (b := k) rfl rfl) rfl ?_
          refine wl_nil ?_
          refine hK96 _ _ ?_
          refine w_cond_d (p := q < k) rfl (fun h97 => ?_) (fun h97 => ?_)
          · refine w_skip ?_
            refine hK95 _ _ ?_
            refine w_seq fun K98 hK98 => ?_
            refine w_block ?_
            refine w_region ?_
            refine wl_val (g_move (v := .slice o2 (m2) (oc2)) rfl) rfl ?_
            refine wl_val (g_move (v := .int .i64 (q)) rfl) rfl ?_
            refine wl_val (g_build (v := .agg #[.int .i64 (q), .bool (true)]) (parts2 rfl rfl) (BD56_01 q true)) rfl ?_
            refine wl_step rfl (g_bslice1 (v := .agg #[.int .i64 (q), .bool (true)]) (vs := [.int .i64 (q), .bool (true)]) SL24 rfl rfl rfl (by decide)) ?_
            rintro _ w99 ⟨a100, rfl, hO101, hE102⟩
            have hO101 : Own _ _ _ _ a100 1 1 (([(q, true)]).flatMap crC) := hO101
            have hs103 := hE102.size
            have hB104 := Ext.below hB2 hE102 (by omega)
            have hz105 := hB104.size
            have hout106 := hO2.ext hE102
            refine wl_step rfl (g_append SL24 rfl rfl hout106 (Own.cells hO101) (rec_length crC_len _) hO101.nil0 (ones_rec crC_one) (by unfold maxLen; first | omega | (simp; omega)) (by first | omega | (simp; omega)) (by omega)) ?_
            rintro _ w108 ⟨a109, c110, rfl, hO111, hC112, hF113⟩
            rw [← List.flatMap_append] at hO111
            have hs114 := hC112.size
            have hB115 := Chg.below hB104 hC112 (by omega) (fun k hk => by have := hout106.lt k hk; omega)
            have hz116 := hB115.size
            refine wl_val (g_assign (v := .slice a109 (m2 + 1) (c110)) rfl) rfl ?_
            refine wl_nil ?_
            refine hK98 _ _ ?_
            refine w_region ?_
            refine wl_val (g_move (v := .int .i64 (q)) rfl) rfl ?_
            refine wl_val (g_add (a := q) (b := 1) rfl rfl ⟨by omega, by omega⟩) rfl ?_
            refine wl_val (g_assign (v := .int .i64 ((q + 1))) rfl) rfl ?_
            refine wl_nil ?_
            exact ⟨(l2 ++ [(q, true)], m2 + 1, q + 1, a109, c110), (by first | omega | (dsimp only; omega)), ⟨rfl, rfl, rfl, rfl, rfl, rfl, trivial⟩, ⟨by omega, by omega, by simp; omega, by omega, ft_nextB hr2.out (by omega), hO111, hB115⟩⟩
          · refine w_exit ?_
            refine hK90 _ _ ?_
            refine w_seq fun K118 hK118 => ?_
            refine w_region ?_
            refine wl_val (g_move (v := .slice o2 (m2) (oc2)) rfl) rfl ?_
            refine wl_val (g_assign (v := .slice o2 (m2) (oc2)) rfl) rfl ?_
            refine wl_val (g_assign (v := .bool (true)) rfl) rfl ?_
            refine wl_nil ?_
            refine hK118 _ _ ?_
            refine w_ret ?_
            have hL := ft_doneB hr2.out (by omega)
            obtain ⟨hR, hOk⟩ := ft_yes (f := f) hok
            rw [hL] at hR
            subst hm2
            exact ret2 rfl (by decide) (by decide) ⟨o2, oc2, (by rw [hR, hOk]; rfl), hO2.nil0, (by rw [hR]; exact hO2), toExt hB2⟩
theorem implFull_fn (n i k : Int) (f : Bool) {w : World} :
    Fn Try.prog 22 #[.int .i64 (n), .int .i64 (i), .int .i64 (k), .bool (f)] w (RetSB w 56 2 (ftR n i k f).length ((ftR n i k f).flatMap crC) (ftOk n i k)) := by
  refine fn_of_wp Try.func22 rfl (by kernel_rfl) (Nat.le_of_ble_eq_true rfl) ?_
  have hB0 := Below.refl w.heap.size w
  have hz0 := hB0.size
  refine w_seq fun K1 hK1 => ?_
  refine w_region ?_
  refine wl_val (g_assign (v := .slice none (0) (0)) rfl) rfl ?_
  refine wl_val (g_assign (v := .bool (false)) rfl) rfl ?_
  refine wl_nil ?_
  refine hK1 _ _ ?_
  refine w_seq fun K2 hK2 => ?_
  refine w_seq fun K3 hK3 => ?_
  refine w_region ?_
  refine wl_val (g_move (v := .int .i64 (n)) rfl) rfl ?_
  refine wl_step rfl (g_call (vs := #[.int .i64 (n), .int .i64 (2), .int .i64 (7)]) CF54 (args3 rfl rfl rfl) (within_fn n 2 7)) ?_
  rintro _ w4 ⟨rfl, hE5⟩
  have hs6 := hE5.size
  have hB7 := Ext.below hB0 hE5 (by omega)
  have hz8 := hB7.size
  refine wl_val (g_not (a := (decide (2 ≤ n ∧ n ≤ 7))) rfl) rfl ?_
  refine wl_val (g_move (v := .bool (!(decide (2 ≤ n ∧ n ≤ 7)))) rfl) rfl ?_
  refine wl_guard (c := (!(decide (2 ≤ n ∧ n ≤ 7))) = false) (val := .int .i64 (i)) (b := ((!(decide (2 ≤ n ∧ n ≤ 7))) == false)) (gv_some rfl rfl rfl) beq_iff_eq (fun hg9 => ?_) ?_
  · have hg9p := (fun h => of_decide_eq_true (bf_not h)) hg9
    exact g_move (v := .int .i64 (i)) rfl
  refine wl_guard (c := (!(decide (2 ≤ n ∧ n ≤ 7))) = false) (val := .bool (decide (i < 0))) (b := ((!(decide (2 ≤ n ∧ n ≤ 7))) == false)) (gv_some rfl rfl rfl) beq_iff_eq (fun hg10 => ?_) ?_
  · have hg10p := (fun h => of_decide_eq_true (bf_not h)) hg10
    exact g_lss (a := i) (b := 0) (if_pos (e := undef) hg10) rfl
  refine wl_val (g_pick_or (b := (!(decide (2 ≤ n ∧ n ≤ 7)))) (q := (decide (i < 0))) rfl rfl) rfl ?_
  refine wl_val (g_move (v := .bool ((!(decide (2 ≤ n ∧ n ≤ 7)) || decide (i < 0)))) rfl) rfl ?_
  refine wl_guard (c := ((!(decide (2 ≤ n ∧ n ≤ 7)) || decide (i < 0))) = false) (val := .int .i64 (i)) (b := (((!(decide (2 ≤ n ∧ n ≤ 7)) || decide (i < 0))) == false)) (gv_some rfl rfl rfl) beq_iff_eq (fun hg11 => ?_) ?_
  · have hg11p := (fun h => And.imp (fun h => of_decide_eq_true (bf_not h)) of_decide_eq_false (bf_or h)) hg11
    exact g_move (v := .int .i64 (i)) rfl
  refine wl_guard (c := ((!(decide (2 ≤ n ∧ n ≤ 7)) || decide (i < 0))) = false) (val := .int .i64 (k)) (b := (((!(decide (2 ≤ n ∧ n ≤ 7)) || decide (i < 0))) == false)) (gv_some rfl rfl rfl) beq_iff_eq (fun hg12 => ?_) ?_
  · have hg12p := (fun h => And.imp (fun h => of_decide_eq_true (bf_not h)) of_decide_eq_false (bf_or h)) hg12
    exact g_move (v := .int .i64 (k)) rfl
  refine wl_guard (c := ((!(decide (2 ≤ n ∧ n ≤ 7)) || decide (i < 0))) = false) (val := .bool (decide (i ≥ k))) (b := (((!(decide (2 ≤ n ∧ n ≤ 7)) || decide (i < 0))) == false)) (gv_some rfl rfl rfl) beq_iff_eq (fun hg13 => ?_) ?_
  · have hg13p := (fun h => And.imp (fun h => of_decide_eq_true (bf_not h)) of_decide_eq_false (bf_or h)) hg13
    exact g_geq (a := i) (b := k) (if_pos (e := undef) hg13) (if_pos (e := undef) hg13)
  refine wl_val (g_pick_or (b := ((!(decide (2 ≤ n ∧ n ≤ 7)) || decide (i < 0)))) (q := (decide (i ≥ k))) rfl rfl) rfl ?_
  refine wl_val (g_move (v := .bool (((!(decide (2 ≤ n ∧ n ≤ 7)) || decide (i < 0)) || decide (i ≥ k)))) rfl) rfl ?_
  refine wl_guard (c := (((!(decide (2 ≤ n ∧ n ≤ 7)) || decide (i < 0)) || decide (i ≥ k))) = false) (val := .int .i64 (k)) (b := ((((!(decide (2 ≤ n ∧ n ≤ 7)) || decide (i < 0)) || decide (i ≥ k))) == false)) (gv_some rfl rfl rfl) beq_iff_eq (fun hg14 => ?_) ?_
  · have hg14p := (fun h => And.imp (fun h => And.imp (fun h => of_decide_eq_true (bf_not h)) of_decide_eq_false (bf_or h)) of_decide_eq_false (bf_or h)) hg14
    exact g_move (v := .int .i64 (k)) rfl
  refine wl_guard (c := (((!(decide (2 ≤ n ∧ n ≤ 7)) || decide (i < 0)) || decide (i ≥ k))) = false) (val := .int .i64 (n)) (b := ((((!(decide (2 ≤ n ∧ n ≤ 7)) || decide (i < 0)) || decide (i ≥ k))) == false)) (gv_some rfl rfl rfl) beq_iff_eq (fun hg15 => ?_) ?_
  · have hg15p := (fun h => And.imp (fun h => And.imp (fun h => of_decide_eq_true (bf_not h)) of_decide_eq_false (bf_or h)) of_decide_eq_false (bf_or h)) hg15
    exact g_move (v := .int .i64 (n)) rfl
  refine wl_guard (c := (((!(decide (2 ≤ n ∧ n ≤ 7)) || decide (i < 0)) || decide (i ≥ k))) = false) (val := .bool (decide (k ≥ n))) (b := ((((!(decide (2 ≤ n ∧ n ≤ 7)) || decide (i < 0)) || decide (i ≥ k))) == false)) (gv_some rfl rfl rfl) beq_iff_eq (fun hg16 => ?_) ?_
  · have hg16p := (fun h => And.imp (fun h => And.imp (fun h => of_decide_eq_true (bf_not h)) of_decide_eq_false (bf_or h)) of_decide_eq_false (bf_or h)) hg16
    exact g_geq (a := k) (b := n) (if_pos (e := undef) hg16) (if_pos (e := undef) hg16)
  refine wl_val (g_pick_or (b := (((!(decide (2 ≤ n ∧ n ≤ 7)) || decide (i < 0)) || decide (i ≥ k)))) (q := (decide (k ≥ n))) rfl rfl) rfl ?_
  refine wl_nil ?_
  refine hK3 _ _ ?_
  refine w_cond (b := ((((!(decide (2 ≤ n ∧ n ≤ 7)) || decide (i < 0)) || decide (i ≥ k)) || decide (k ≥ n)))) rfl (fun h17 => ?_) (fun h17 => ?_)
  · replace h17 := (fun h => Or.imp (fun h => Or.imp (fun h => Or.imp (fun h => of_decide_eq_false (bt_not h)) of_decide_eq_true (bt_or h)) of_decide_eq_true (bt_or h)) of_decide_eq_true (bt_or h)) h17
    refine w_seq fun K18 hK18 => ?_
    refine w_region ?_
    refine wl_val (g_assign (v := .slice none (0) (0)) rfl) rfl ?_
    refine wl_val (g_assign (v := .bool (false)) rfl) rfl ?_
    refine wl_nil ?_
    refine hK18 _ _ ?_
    refine w_ret ?_
    obtain ⟨hR, hOk⟩ := ft_no (n := n) (i := i) (k := k) (f := f) (by omega)
    exact ret2 rfl (by decide) (by decide) ⟨none, 0, (by rw [hR, hOk]; rfl), (fun _ => rfl), (by rw [hR]; exact (Own.nilrow _ _ _ _)), toExt hB7⟩
  · replace h17 := (fun h => And.imp (fun h => And.imp (fun h => And.imp (fun h => of_decide_eq_true (bf_not h)) of_decide_eq_false (bf_or h)) of_decide_eq_false (bf_or h)) of_decide_eq_false (bf_or h)) h17
    refine w_skip ?_
    refine hK2 _ _ ?_
    refine w_seq fun K19 hK19 => ?_
    refine w_region ?_
    refine wl_step rfl (g_bslice0  SL24 ) ?_
    rintro _ w20 ⟨a21, rfl, hO22, hE23⟩
    have hO22 : Own _ _ _ _ a21 0 0 (([]).flatMap crC) := hO22
    have hs24 := hE23.size
    have hB25 := Ext.below hB7 hE23 (by omega)
    have hz26 := hB25.size
    refine wl_val (g_assign (v := .slice a21 (0) (0)) rfl) rfl ?_
    refine wl_nil ?_
    refine hK19 _ _ ?_
    refine w_seq fun K27 hK27 => ?_
    refine w_seq fun K28 hK28 => ?_
    refine w_region ?_
    refine wl_val (g_move (v := .int .i64 (k)) rfl) rfl ?_
    refine wl_val (g_sub (a := k) (b := 1) rfl rfl ⟨by omega, by omega⟩) rfl ?_
    refine wl_val (g_assign (v := .int .i64 ((k - 1))) rfl) rfl ?_
    refine wl_nil ?_
    refine hK28 _ _ ?_
    refine w_block ?_
    have hok : 2 ≤ n ∧ n ≤ 7 ∧ 0 ≤ i ∧ i < k ∧ k < n := by omega
    refine w_for (σ := List Cross × Nat × Int × Option Addr × Nat) (fun ⟨l, m, p, o, oc⟩ => [(0, .int .i64 (n)), (1, .int .i64 (i)), (2, .int .i64 (k)), (3, .bool (f)), (10, .slice o (m) (oc)), (11, .int .i64 (p))]) (fun ⟨l, m, p, o, oc⟩ w' => (i ≤ p) ∧ (p ≤ k - 1) ∧ (m = l.length) ∧ ((m : Int) = k - 1 - p) ∧ (Hid (ftA i (k - 1) (k - 1 - i).toNat = l ++ ftA i p (p - i).toNat)) ∧ (Own w' w.heap.size 56 2 o m oc (l.flatMap crC)) ∧ (Below w.heap.size w w')) (fun ⟨l, m, p, o, oc⟩ => (p - i).toNat) ([], 0, k - 1, a21, 0) ⟨rfl, rfl, rfl, rfl, rfl, rfl, trivial⟩ ?_ ?_
    · exact ⟨by omega, by omega, rfl, by omega, rfl, hO22.mono (by omega), hB25⟩
    · rintro ⟨l, m, p, o, oc⟩ b31 w29 ⟨hp1, hp2, hm, hmp, hr, hO, hB1⟩
      show Wp _ _ _ _ (upds b31 [(0, .int .i64 (n)), (1, .int .i64 (i)), (2, .int .i64 (k)), (3, .bool (f)), (10, .slice o (m) (oc)), (11, .int .i64 (p))]) w29
      have hB1z := hB1.size
      refine w_seq fun K32 hK32 => ?_
      refine w_seq fun K33 hK33 => ?_
      refine w_region ?_
      refine wl_val (g_move (v := .int .i64 (p)) rfl) rfl ?_
      refine wl_val (g_move (v := .int .i64 (i)) rfl) rfl ?_
      refine wl_val (g_gtr (a := p) (b := i) rfl rfl) rfl ?_
      refine wl_nil ?_
      refine hK33 _ _ ?_
      refine w_cond_d (p := p > i) rfl (fun h34 => ?_) (fun h34 => ?_)
      · refine w_skip ?_
        refine hK32 _ _ ?_
        refine w_seq fun K35 hK35 => ?_
        refine w_block ?_
        refine w_region ?_
        refine wl_val (g_move (v := .slice o (m) (oc)) rfl) rfl ?_
        refine wl_val (g_move (v := .int .i64 (p)) rfl) rfl ?_
        refine wl_val (g_build (v := .agg #[.int .i64 (p), .bool (false)]) (parts1 rfl) (BD56_0 p)) rfl ?_
        refine wl_step rfl (g_bslice1 (v := .agg #[.int .i64 (p), .bool (false)]) (vs := [.int .i64 (p), .bool (false)]) SL24 rfl rfl rfl (by decide)) ?_
        rintro _ w36 ⟨a37, rfl, hO38, hE39⟩
        have hO38 : Own _ _ _ _ a37 1 1 (([(p, false)]).flatMap crC) := hO38
        have hs40 := hE39.size
        have hB41 := Ext.below hB1 hE39 (by omega)
        have hz42 := hB41.size
        have hout43 := hO.ext hE39
        refine wl_step rfl (g_append SL24 rfl rfl hout43 (Own.cells hO38) (rec_length crC_len _) hO38.nil0 (ones_rec crC_one) (by unfold maxLen; first | omega | (simp; omega)) (by first | omega | (simp; omega)) (by omega)) ?_
        rintro _ w45 ⟨a46, c47, rfl, hO48, hC49, hF50⟩
        rw [← List.flatMap_append] at hO48
        have hs51 := hC49.size
        have hB52 := Chg.below hB41 hC49 (by omega) (fun k hk => by have := hout43.lt k hk; omega)
        have hz53 := hB52.size
        refine wl_val (g_assign (v := .slice a46 (m + 1) (c47)) rfl) rfl ?_
        refine wl_nil ?_
        refine hK35 _ _ ?_
        refine w_region ?_
        refine wl_val (g_move (v := .int .i64 (p)) rfl) rfl ?_
        refine wl_val (g_sub (a := p) (b := 1) rfl rfl ⟨by omega, by omega⟩) rfl ?_
        refine wl_val (g_assign (v := .int .i64 ((p - 1))) rfl) rfl ?_
        refine wl_nil ?_
        exact ⟨(l ++ [(p, false)], m + 1, p - 1, a46, c47), (by first | omega | (dsimp only; omega)), ⟨rfl, rfl, rfl, rfl, rfl, rfl, trivial⟩, ⟨by omega, by omega, by simp; omega, by omega, ft_nextA hr.out (by omega), hO48, hB52⟩⟩
      · refine w_exit ?_
        refine hK27 _ _ ?_
        refine w_seq fun K55 hK55 => ?_
        refine w_region ?_
        refine wl_val (g_move (v := .slice o (m) (oc)) rfl) rfl ?_
        refine wl_val (g_move (v := .int .i64 (i)) rfl) rfl ?_
        refine wl_val (g_move (v := .bool (f)) rfl) rfl ?_
        refine wl_val (g_build (v := .agg #[.int .i64 (i), .bool (f)]) (parts2 rfl rfl) (BD56_01 i f)) rfl ?_
        refine wl_val (g_move (v := .int .i64 (i)) rfl) rfl ?_
        refine wl_val (g_move (v := .bool (f)) rfl) rfl ?_
        refine wl_val (g_build (v := .agg #[.int .i64 (i), .bool (f)]) (parts2 rfl rfl) (BD56_01 i f)) rfl ?_
        refine wl_step rfl (g_bslice2 (v := .agg #[.int .i64 (i), .bool (f)]) (vs := [.int .i64 (i), .bool (f)]) (u := .agg #[.int .i64 (i), .bool (f)]) (us := [.int .i64 (i), .bool (f)]) SL24 rfl rfl rfl rfl rfl rfl (by decide)) ?_
        rintro _ w56 ⟨a57, rfl, hO58, hE59⟩
        have hO58 : Own _ _ _ _ a57 2 2 (([(i, f), (i, f)]).flatMap crC) := hO58
        have hs60 := hE59.size
        have hB61 := Ext.below hB1 hE59 (by omega)
        have hz62 := hB61.size
        have hout63 := hO.ext hE59
        refine wl_step rfl (g_append SL24 rfl rfl hout63 (Own.cells hO58) (rec_length crC_len _) hO58.nil0 (ones_rec crC_one) (by unfold maxLen; first | omega | (simp; omega)) (by first | omega | (simp; omega)) (by omega)) ?_
        rintro _ w65 ⟨a66, c67, rfl, hO68, hC69, hF70⟩
        rw [← List.flatMap_append] at hO68
        have hs71 := hC69.size
        have hB72 := Chg.below hB61 hC69 (by omega) (fun k hk => by have := hout63.lt k hk; omega)
        have hz73 := hB72.size
        refine wl_val (g_assign (v := .slice a66 (m + 2) (c67)) rfl) rfl ?_
        refine wl_nil ?_
        refine hK55 _ _ ?_
        refine w_seq fun K75 hK75 => ?_
        refine w_seq fun K76 hK76 => ?_
        refine w_region ?_
        refine wl_val (g_move (v := .int .i64 (i)) rfl) rfl ?_
        refine wl_val (g_add (a := i) (b := 1) rfl rfl ⟨by omega, by omega⟩) rfl ?_
        refine wl_val (g_assign (v := .int .i64 ((i + 1))) rfl) rfl ?_
        refine wl_nil ?_
        refine hK76 _ _ ?_
        refine w_block ?_
        refine w_for (σ := List Cross × Nat × Int × Option Addr × Nat) (fun ⟨l2, m2, q, o2, oc2⟩ => [(0, .int .i64 (n)), (1, .int .i64 (i)), (2, .int .i64 (k)), (3, .bool (f)), (10, .slice o2 (m2) (oc2)), (12, .int .i64 (q))]) (fun ⟨l2, m2, q, o2, oc2⟩ w' => (i + 1 ≤ q) ∧ (q ≤ k) ∧ (m2 = l2.length) ∧ ((m2 : Int) = k - 1 - i + 2 + (q - i - 1)) ∧ (Hid (ftL i k f = l2 ++ ftB q (k - q).toNat)) ∧ (Own w' w.heap.size 56 2 o2 m2 oc2 (l2.flatMap crC)) ∧ (Below w.heap.size w w')) (fun ⟨l2, m2, q, o2, oc2⟩ => (k - q).toNat) (l ++ [(i, f), (i, f)], m + 2, i + 1, a66, c67) ⟨rfl, rfl, rfl, rfl, rfl, rfl, trivial⟩ ?_ ?_
        · exact ⟨by omega, by omega, by simp; omega, by omega, ft_doneA hr.out (by omega), hO68, hB72⟩
        · rintro ⟨l2, m2, q, o2, oc2⟩ b79 w77 ⟨hq1, hq2, hm2, hmq, hr2, hO2, hB2⟩
          show Wp _ _ _ _ (upds b79 [(0, .int .i64 (n)), (1, .int .i64 (i)), (2, .int .i64 (k)), (3, .bool (f)), (10, .slice o2 (m2) (oc2)), (12, .int .i64 (q))]) w77
          have hB2z := hB2.size
          refine w_seq fun K80 hK80 => ?_
          refine w_seq fun K81 hK81 => ?_
          refine w_region ?_
          refine wl_val (g_move (v := .int .i64 (q)) rfl) rfl ?_
          refine wl_val (g_move (v := .int .i64 (k)) rfl) rfl ?_
          refine wl_val (g_lss (a := q) (b := k) rfl rfl) rfl ?_
          refine wl_nil ?_
          refine hK81 _ _ ?_
          refine w_cond_d (p := q < k) rfl (fun h82 => ?_) (fun h82 => ?_)
          · refine w_skip ?_
            refine hK80 _ _ ?_
            refine w_seq fun K83 hK83 => ?_
            refine w_block ?_
            refine w_region ?_
            refine wl_val (g_move (v := .slice o2 (m2) (oc2)) rfl) rfl ?_
            refine wl_val (g_move (v := .int .i64 (q)) rfl) rfl ?_
            refine wl_val (g_build (v := .agg #[.int .i64 (q), .bool (true)]) (parts2 rfl rfl) (BD56_01 q true)) rfl ?_
            refine wl_step rfl (g_bslice1 (v := .agg #[.int .i64 (q), .bool (true)]) (vs := [.int .i64 (q), .bool (true)]) SL24 rfl rfl rfl (by decide)) ?_
            rintro _ w84 ⟨a85, rfl, hO86, hE87⟩
            have hO86 : Own _ _ _ _ a85 1 1 (([(q, true)]).flatMap crC) := hO86
            have hs88 := hE87.size
            have hB89 := Ext.below hB2 hE87 (by omega)
            have hz90 := hB89.size
            have hout91 := hO2.ext hE87
            refine wl_step rfl (g_append SL24 rfl rfl hout91 (Own.cells hO86) (rec_length crC_len _) hO86.nil0 (ones_rec crC_one) (by unfold maxLen; first | omega | (simp; omega)) (by first | omega | (simp; omega)) (by omega)) ?_
            rintro _ w93 ⟨a94, c95, rfl, hO96, hC97, hF98⟩
            rw [← List.flatMap_append] at hO96
            have hs99 := hC97.size
            have hB100 := Chg.below hB89 hC97 (by omega) (fun k hk => by have := hout91.lt k hk; omega)
            have hz101 := hB100.size
            refine wl_val (g_assign (v := .slice a94 (m2 + 1) (c95)) rfl) rfl ?_
            refine wl_nil ?_
            refine hK83 _ _ ?_
            refine w_region ?_
            refine wl_val (g_move (v := .int .i64 (q)) rfl) rfl ?_
            refine wl_val (g_add (a := q) (b := 1) rfl rfl ⟨by omega, by omega⟩) rfl ?_
            refine wl_val (g_assign (v := .int .i64 ((q + 1))) rfl) rfl ?_
            refine wl_nil ?_
            exact ⟨(l2 ++ [(q, true)], m2 + 1, q + 1, a94, c95), (by first | omega | (dsimp only; omega)), ⟨rfl, rfl, rfl, rfl, rfl, rfl, trivial⟩, ⟨by omega, by omega, by simp; omega, by omega, ft_nextB hr2.out (by omega), hO96, hB100⟩⟩
          · refine w_exit ?_
            refine hK75 _ _ ?_
            refine w_seq fun K103 hK103 => ?_
            refine w_region ?_
            refine wl_val (g_move (v := .slice o2 (m2) (oc2)) rfl) rfl ?_
            refine wl_val (g_assign (v := .slice o2 (m2) (oc2)) rfl) rfl ?_
            refine wl_val (g_assign (v := .bool (true)) rfl) rfl ?_
            refine wl_nil ?_
            refine hK103 _ _ ?_
            refine w_ret ?_
            have hL := ft_doneB hr2.out (by omega)
            obtain ⟨hR, hOk⟩ := ft_yes (f := f) hok
            rw [hL] at hR
            subst hm2
            exact ret2 rfl (by decide) (by decide) ⟨o2, oc2, (by rw [hR, hOk]; rfl), hO2.nil0, (by rw [hR]; exact hO2), toExt hB2⟩
end Go.Proofs.Ytcgkcoogaieolaa
