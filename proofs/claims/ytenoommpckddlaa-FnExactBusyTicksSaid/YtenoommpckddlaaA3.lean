import Derived.Test.YtenoommpckddlaaA2
namespace Go.Proofs.Ytenoommpckddlaa
open Go Go.RowKit
theorem isBusy_fn {f : FuncId} {cap : Array Value} (hcf : CallF Try.prog f) (of : Int → Bool) (t : Int) {lo hi : Nat} {a : Option Addr} {c : Nat} {xs : List Stay} {w : World} (hof : ∀ (p : Int) (w' : World), Below w.heap.size w w' → Fn Try.prog f (#[.int .i64 p] ++ cap) w' (RetV w' (.bool (of p)))) (hx : Cells lo hi w a (xs.flatMap stC)) (hhi : hi ≤ w.heap.size) (hl : xs.length ≤ 1099511627776) :
    Fn Try.prog 38 #[.slice a (xs.length) (c), .int .i64 (t), .func (.func f) #[] cap] w (RetV w (.bool (xs.any (busyS of t)))) := by
  refine fn_of_wp Try.func38 rfl (by kernel_rfl) (Nat.le_of_ble_eq_true rfl) ?_
  have hB0 := Below.refl w.heap.size w
  have hz0 := hB0.size
  refine w_seq fun K1 hK1 => ?_
  refine w_region ?_
  refine wl_val (g_assign (v := .bool (false)) rfl) rfl ?_
  refine wl_nil ?_
  refine hK1 _ _ ?_
  refine w_seq fun K2 hK2 => ?_
  refine w_seq fun K3 hK3 => ?_
  refine w_region ?_
  refine wl_val (g_move (v := .slice a (xs.length) (c)) rfl) rfl ?_
  refine wl_val (g_len' (a := a) (l := (xs.length)) (c := c) SL30 rfl) rfl ?_
  refine wl_val (g_move (v := .int .i64 (0)) rfl) rfl ?_
  refine wl_nil ?_
  refine hK3 _ _ ?_
  refine w_block ?_
  refine w_for (σ := Nat) (fun k => [(0, .slice a (xs.length) (c)), (1, .int .i64 (t)), (2, .func (.func f) #[] cap), (9, .slice a (xs.length) (c)), (10, .int .i64 (((xs.length : Nat) : Int))), (11, .int .i64 (((k : Nat) : Int)))]) (fun k w' => (k ≤ xs.length) ∧ ((xs.take k).any (busyS of t) = false) ∧ (Below w.heap.size w w')) (fun k => xs.length - k) (0) ⟨rfl, rfl, rfl, rfl, rfl, rfl, trivial⟩ ?_ ?_
  · exact ⟨Nat.zero_le _, rfl, hB0⟩
  · rintro k b6 w4 ⟨hk, ht, hB1⟩
    show Wp _ _ _ _ (upds b6 [(0, .slice a (xs.length) (c)), (1, .int .i64 (t)), (2, .func (.func f) #[] cap), (9, .slice a (xs.length) (c)), (10, .int .i64 (((xs.length : Nat) : Int))), (11, .int .i64 (((k : Nat) : Int)))]) w4
    have hB1z := hB1.size
    refine w_seq fun K7 hK7 => ?_
    refine w_region ?_
    refine wl_val (g_lss (a := ((k : Nat) : Int)) (b := ((xs.length : Nat) : Int)) rfl rfl) rfl ?_
    refine wl_nil ?_
    refine hK7 _ _ ?_
    refine w_seq fun K8 hK8 => ?_
    refine w_cond_d (p := ((k : Nat) : Int) < ((xs.length : Nat) : Int)) rfl (fun h9 => ?_) (fun h9 => ?_)
    · refine w_skip ?_
      refine hK8 _ _ ?_
      refine w_seq fun K10 hK10 => ?_
      refine w_block ?_
      refine w_seq fun K11 hK11 => ?_
      refine w_region ?_
      refine wl_val (g_index (a := a) (l := (xs.length)) (c := c) (i := ((k : Nat) : Int)) SL30 rfl rfl (Stay_some (i := ((k : Nat) : Int)) (Cells.below hx hB1 (by omega)) (by omega) (by omega)) (by omega) (by omega)) rfl ?_
      refine wl_val (g_loadS (q := (adr a).add (k * 3)) (cs := [.int .i64 (xs[k]!.1), .int .i64 (xs[k]!.2.1), .int .i64 (xs[k]!.2.2)]) AG42 rfl (Stay_all (i := ((k : Nat) : Int)) (Cells.below hx hB1 (by omega)) (by omega) (by omega))) rfl ?_
      refine wl_step rfl (g_alloc (cs := #[.int .i64 (0), .int .i64 (0), .int .i64 (0)]) ZR42 rfl) ?_
      rintro _ w12 ⟨g13, rfl, hg14, hb15, hE16⟩
      have hs17 := hE16.size
      have hB18 := Ext.below hB1 hE16 (by omega)
      have hz19 := hB18.size
      refine wl_step rfl (g_storeB (g := g13) (k := 0) (bs := #[.int .i64 (0), .int .i64 (0), .int .i64 (0)]) (bs' := #[.int .i64 (xs[k]!.1), .int .i64 (xs[k]!.2.1), .int .i64 (xs[k]!.2.2)]) (vs := [.int .i64 (xs[k]!.1), .int .i64 (xs[k]!.2.1), .int .i64 (xs[k]!.2.2)]) hb15 AG42.sz rfl rfl rfl (by simp [Value.oneCell']) (Nat.le_of_ble_eq_true rfl) rfl) ?_
      rintro _ w21 ⟨rfl, hb23, hC22⟩
      have hs24 := hC22.size
      have hl25 := hb15.lt
      have hB26 := Chg.below hB18 hC22 (by omega) (fun k hk => by cases hk; omega)
      have hz27 := hB26.size
      refine wl_nil ?_
      refine hK11 _ _ ?_
      refine w_seq fun K28 hK28 => ?_
      refine w_region ?_
      refine wl_val (g_move (v := .func (.func f) #[] cap) rfl) rfl ?_
      refine wl_val (g_fieldAddr (q := (⟨g13, 0, none⟩ : Addr)) FL42_0 ON3 rfl) rfl ?_
      refine wl_val (g_load1 (q := ((⟨g13, 0, none⟩ : Addr)).add 0) (v := .int .i64 (xs[k]!.1)) ON3 rfl (Blk.at0 (i := 0) hb23 rfl)) rfl ?_
      refine wl_step rfl (g_callc (f := f) (cap := cap) (va := #[.int .i64 (xs[k]!.1)]) hcf rfl (args1 rfl) (hof (xs[k]!.1) _ hB26)) ?_
      rintro _ w29 ⟨rfl, hE30⟩
      have hs31 := hE30.size
      have hB32 := Ext.below hB26 hE30 (by omega)
      have hz33 := hB32.size
      have hb34 := hb23.ext hE30
      refine wl_val (g_move (v := .bool ((of (xs[k]!.1)))) rfl) rfl ?_
      refine wl_guard (c := ((of (xs[k]!.1))) = true) (val := .pointer (some (((⟨g13, 0, none⟩ : Addr)).add 1))) (b := (((of (xs[k]!.1))) == true)) (gv_some rfl rfl rfl) beq_iff_eq (fun hg35 => ?_) ?_
      · have hg35p := hg35
        exact g_fieldAddr (q := (⟨g13, 0, none⟩ : Addr)) FL42_1 ON3 rfl
      refine wl_guard (c := ((of (xs[k]!.1))) = true) (val := .int .i64 (xs[k]!.2.1)) (b := (((of (xs[k]!.1))) == true)) (gv_some rfl rfl rfl) beq_iff_eq (fun hg36 => ?_) ?_
      · have hg36p := hg36
        exact g_load1 (q := ((⟨g13, 0, none⟩ : Addr)).add 1) (v := .int .i64 (xs[k]!.2.1)) ON3 (if_pos hg36) (Blk.at0 (i := 1) hb34 rfl)
      refine wl_guard (c := ((of (xs[k]!.1))) = true) (val := .int .i64 (t)) (b := (((of (xs[k]!.1))) == true)) (gv_some rfl rfl rfl) beq_iff_eq (fun hg37 => ?_) ?_
      · have hg37p := hg37
        exact g_move (v := .int .i64 (t)) rfl
      refine wl_guard (c := ((of (xs[k]!.1))) = true) (val := .bool (decide (xs[k]!.2.1 ≤ t))) (b := (((of (xs[k]!.1))) == true)) (gv_some rfl rfl rfl) beq_iff_eq (fun hg38 => ?_) ?_
      · have hg38p := hg38
        exact g_leq (a := xs[k]!.2.1) (b := t) (if_pos hg38) (if_pos hg38)
      refine wl_val (g_pick (b := ((of (xs[k]!.1)))) (v := .bool ((of (xs[k]!.1)) && decide (xs[k]!.2.1 ≤ t))) rfl (fun h => by simp only [ev]; first | (show (if _ then _ else _ : Value) = _; rw [if_pos h, h]; rfl)) (fun h => by rw [h]; rfl)) rfl ?_
      refine wl_val (g_move (v := .bool (((of (xs[k]!.1)) && decide (xs[k]!.2.1 ≤ t)))) rfl) rfl ?_
      refine wl_guard (c := (((of (xs[k]!.1)) && decide (xs[k]!.2.1 ≤ t))) = true) (val := .int .i64 (t)) (b := ((((of (xs[k]!.1)) && decide (xs[k]!.2.1 ≤ t))) == true)) (gv_some rfl rfl rfl) beq_iff_eq (fun hg39 => ?_) ?_
      · have hg39p := (fun h => And.imp id of_decide_eq_true (bt_and h)) hg39
        exact g_move (v := .int .i64 (t)) rfl
      refine wl_guard (c := (((of (xs[k]!.1)) && decide (xs[k]!.2.1 ≤ t))) = true) (val := .pointer (some (((⟨g13, 0, none⟩ : Addr)).add 2))) (b := ((((of (xs[k]!.1)) && decide (xs[k]!.2.1 ≤ t))) == true)) (gv_some rfl rfl rfl) beq_iff_eq (fun hg40 => ?_) ?_
      · have hg40p := (fun h => And.imp id of_decide_eq_true (bt_and h)) hg40
        exact g_fieldAddr (q := (⟨g13, 0, none⟩ : Addr)) FL42_2 ON3 rfl
      refine wl_guard (c := (((of (xs[k]!.1)) && decide (xs[k]!.2.1 ≤ t))) = true) (val := .int .i64 (xs[k]!.2.2)) (b := ((((of (xs[k]!.1)) && decide (xs[k]!.2.1 ≤ t))) == true)) (gv_some rfl rfl rfl) beq_iff_eq (fun hg41 => ?_) ?_
      · have hg41p := (fun h => And.imp id of_decide_eq_true (bt_and h)) hg41
        exact g_load1 (q := ((⟨g13, 0, none⟩ : Addr)).add 2) (v := .int .i64 (xs[k]!.2.2)) ON3 (if_pos hg41) (Blk.at0 (i := 2) hb34 rfl)
      refine wl_guard (c := (((of (xs[k]!.1)) && decide (xs[k]!.2.1 ≤ t))) = true) (val := .bool (decide (t < xs[k]!.2.2))) (b := ((((of (xs[k]!.1)) && decide (xs[k]!.2.1 ≤ t))) == true)) (gv_some rfl rfl rfl) beq_iff_eq (fun hg42 => ?_) ?_
      · have hg42p := (fun h => And.imp id of_decide_eq_true (bt_and h)) hg42
        exact g_lss (a := t) (b := xs[k]!.2.2) (if_pos hg42) (if_pos hg42)
      refine wl_val (g_pick (b := (((of (xs[k]!.1)) && decide (xs[k]!.2.1 ≤ t)))) (v := .bool (((of (xs[k]!.1)) && decide (xs[k]!.2.1 ≤ t)) && decide (t < xs[k]!.2.2))) rfl (fun h => by simp only [ev]; first | (show (if _ then _ else _ : Value) = _; rw [if_pos h, h]; rfl)) (fun h => by rw [h]; rfl)) rfl ?_
      refine wl_nil ?_
      refine hK28 _ _ ?_
      refine w_cond (b := ((((of (xs[k]!.1)) && decide (xs[k]!.2.1 ≤ t)) && decide (t < xs[k]!.2.2)))) rfl (fun h43 => ?_) (fun h43 => ?_)
      · replace h43 := (fun h => And.imp (fun h => And.imp id of_decide_eq_true (bt_and h)) of_decide_eq_true (bt_and h)) h43
        refine w_seq fun K44 hK44 => ?_
        refine w_region ?_
        refine wl_val (g_assign (v := .bool (true)) rfl) rfl ?_
        refine wl_nil ?_
        refine hK44 _ _ ?_
        refine w_ret ?_
        exact ret1 rfl (by decide) ⟨congrArg Value.bool (any_yes (k := k) (by omega) (busy_mk h43)).symm, toExt hB32⟩
      · replace h43 := (fun h => Or.imp (fun h => Or.imp id of_decide_eq_false (bf_and h)) of_decide_eq_false (bf_and h)) h43
        refine w_skip ?_
        refine hK10 _ _ ?_
        refine w_region ?_
        refine wl_val (g_add (a := ((k : Nat) : Int)) (b := 1) rfl rfl ⟨by omega, by omega⟩) rfl ?_
        refine wl_val (g_move (v := .int .i64 ((((k : Nat) : Int) + 1))) rfl) rfl ?_
        refine wl_nil ?_
        exact ⟨(k + 1), (by first | omega | (dsimp only; omega)), ⟨rfl, rfl, rfl, rfl, rfl, rfl, trivial⟩, ⟨by omega, any_next (by omega) ht (busy_no h43), hB32⟩⟩
    · refine w_exit ?_
      refine hK2 _ _ ?_
      refine w_seq fun K45 hK45 => ?_
      refine w_region ?_
      refine wl_val (g_assign (v := .bool (false)) rfl) rfl ?_
      refine wl_nil ?_
      refine hK45 _ _ ?_
      refine w_ret ?_
      exact ret1 rfl (by decide) ⟨congrArg Value.bool (any_end (k := k) (by omega) ht).symm, toExt hB1⟩
theorem quiet1_fn (p : Int) {w : World} :
    Fn Try.prog 39 #[.int .i64 (p)] w (RetV w (.bool true)) := by
  refine fn_of_wp Try.func39 rfl (by kernel_rfl) (Nat.le_of_ble_eq_true rfl) ?_
  have hB0 := Below.refl w.heap.size w
  have hz0 := hB0.size
  refine w_seq fun K1 hK1 => ?_
  refine w_region ?_
  refine wl_val (g_assign (v := .bool (false)) rfl) rfl ?_
  refine wl_nil ?_
  refine hK1 _ _ ?_
  refine w_seq fun K2 hK2 => ?_
  refine w_region ?_
  refine wl_val (g_assign (v := .bool (true)) rfl) rfl ?_
  refine wl_nil ?_
  refine hK2 _ _ ?_
  refine w_ret ?_
  exact ret1 rfl (by decide) ⟨rfl, toExt hB0⟩
theorem busy1_fn (p q : Int) {g : Nat} {w : World} (hb : Blk w g 3 #[.int .i64 (q)]) :
    Fn Try.prog 40 #[.int .i64 (p), .pointer (some ((⟨g, 0, none⟩ : Addr)))] w (RetV w (.bool (decide (p = q)))) := by
  refine fn_of_wp Try.func40 rfl (by kernel_rfl) (Nat.le_of_ble_eq_true rfl) ?_
  have hB0 := Below.refl w.heap.size w
  have hz0 := hB0.size
  refine w_seq fun K1 hK1 => ?_
  refine w_region ?_
  refine wl_val (g_assign (v := .bool (false)) rfl) rfl ?_
  refine wl_nil ?_
  refine hK1 _ _ ?_
  refine w_seq fun K2 hK2 => ?_
  refine w_region ?_
  refine wl_val (g_move (v := .int .i64 (p)) rfl) rfl ?_
  refine wl_val (g_load1 (q := (⟨g, 0, none⟩ : Addr)) (v := .int .i64 (q)) ON3 rfl (Blk.at0 (i := 0) hb rfl)) rfl ?_
  refine wl_val (g_eql (a := p) (b := q) rfl rfl) rfl ?_
  refine wl_val (g_assign (v := .bool (decide (p = q))) rfl) rfl ?_
  refine wl_nil ?_
  refine hK2 _ _ ?_
  refine w_ret ?_
  exact ret1 rfl (by decide) ⟨rfl, toExt hB0⟩
theorem specQuiet_fn {lo hi : Nat} {a : Option Addr} {c : Nat} {xs : List Stay} {w : World} (hx : Cells lo hi w a (xs.flatMap stC)) (hhi : hi ≤ w.heap.size) (hl : xs.length ≤ 1099511627776) :
    Fn Try.prog 21 #[.slice a (xs.length) (c)] w (RetV w (.int .i64 (quietTick xs))) := by
  refine fn_of_wp Try.func21 rfl (by kernel_rfl) (Nat.le_of_ble_eq_true rfl) ?_
  have hB0 := Below.refl w.heap.size w
  have hz0 := hB0.size
  refine w_seq fun K1 hK1 => ?_
  refine w_region ?_
  refine wl_val (g_assign (v := .int .i64 (0)) rfl) rfl ?_
  refine wl_nil ?_
  refine hK1 _ _ ?_
  refine w_seq fun K2 hK2 => ?_
  refine w_seq fun K3 hK3 => ?_
  refine w_region ?_
  refine wl_val (g_move (v := .slice a (xs.length) (c)) rfl) rfl ?_
  refine wl_step rfl (g_call (vs := #[.slice a (xs.length) (c)]) CF15 (args1 rfl) (specStaysOk_fn (Cells.below hx hB0 (by omega)) (by omega) (by omega))) ?_
  rintro _ w4 ⟨rfl, hE5⟩
  have hs6 := hE5.size
  have hB7 := Ext.below hB0 hE5 (by omega)
  have hz8 := hB7.size
  refine wl_val (g_not (a := ((staysOk xs))) rfl) rfl ?_
  refine wl_nil ?_
  refine hK3 _ _ ?_
  refine w_cond (b := (!((staysOk xs)))) rfl (fun h9 => ?_) (fun h9 => ?_)
  · replace h9 := bt_not h9
    refine w_seq fun K10 hK10 => ?_
    refine w_region ?_
    refine wl_val (g_assign (v := .int .i64 ((-1))) rfl) rfl ?_
    refine wl_nil ?_
    refine hK10 _ _ ?_
    refine w_ret ?_
    exact ret1 rfl (by decide) ⟨congrArg (Value.int .i64) (quiet_bad h9).symm, toExt hB7⟩
  · replace h9 := bf_not h9
    refine w_skip ?_
    refine hK2 _ _ ?_
    refine w_seq fun K11 hK11 => ?_
    refine w_region ?_
    refine wl_val (g_assign (v := .int .i64 (0)) rfl) rfl ?_
    refine wl_nil ?_
    refine hK11 _ _ ?_
    refine w_seq fun K12 hK12 => ?_
    refine w_block ?_
    refine w_for (σ := Nat) (fun t => [(0, .slice a (xs.length) (c)), (3, .int .i64 (((t : Nat) : Int)))]) (fun t w' => (t ≤ 1000) ∧ (Hid (quietF xs 1001 0 = quietF xs (1001 - t) t)) ∧ (Below w.heap.size w w')) (fun t => 1001 - t) (0) ⟨rfl, rfl, trivial⟩ ?_ ?_
    · exact ⟨Nat.zero_le _, rfl, hB7⟩
    · rintro t b15 w13 ⟨ht, hr, hB1⟩
      show Wp _ _ _ _ (upds b15 [(0, .slice a (xs.length) (c)), (3, .int .i64 (((t : Nat) : Int)))]) w13
      have hB1z := hB1.size
      refine w_seq fun K16 hK16 => ?_
      refine w_seq fun K17 hK17 => ?_
      refine w_region ?_
      refine wl_val (g_move (v := .slice a (xs.length) (c)) rfl) rfl ?_
      refine wl_val (g_move (v := .int .i64 (((t : Nat) : Int))) rfl) rfl ?_
      refine wl_step rfl (g_call (vs := #[.slice a (xs.length) (c), .int .i64 (((t : Nat) : Int))]) CF37 (args2 rfl rfl) (at_fn (((t : Nat) : Int)) (Cells.below hx hB1 (by omega)) (by omega) (by omega))) ?_
      rintro _ w18 ⟨rfl, hE19⟩
      have hs20 := hE19.size
      have hB21 := Ext.below hB1 hE19 (by omega)
      have hz22 := hB21.size
      refine wl_val (g_gtr (a := ((atN xs (((t : Nat) : Int)) : Nat) : Int)) (b := 0) rfl rfl) rfl ?_
      refine wl_nil ?_
      refine hK17 _ _ ?_
      refine w_cond_d (p := ((atN xs (((t : Nat) : Int)) : Nat) : Int) > 0) rfl (fun h23 => ?_) (fun h23 => ?_)
      · refine w_skip ?_
        refine hK16 _ _ ?_
        refine w_block ?_
        refine w_region ?_
        refine wl_val (g_move (v := .int .i64 (((t : Nat) : Int))) rfl) rfl ?_
        refine wl_val (g_add (a := ((t : Nat) : Int)) (b := 1) rfl rfl ⟨by omega, by omega⟩) rfl ?_
        refine wl_val (g_assign (v := .int .i64 ((((t : Nat) : Int) + 1))) rfl) rfl ?_
        refine wl_nil ?_
        exact ⟨(t + 1), (by first | omega | (dsimp only; omega)), ⟨rfl, rfl, trivial⟩, ⟨by have := at_lt (t := ((t : Nat) : Int)) h9 (by omega); omega, hr.out.trans (quiet_step (t := t) ht (by omega)), hB21⟩⟩
      · refine w_exit ?_
        refine hK12 _ _ ?_
        refine w_seq fun K24 hK24 => ?_
        refine w_region ?_
        refine wl_val (g_move (v := .int .i64 (((t : Nat) : Int))) rfl) rfl ?_
        refine wl_val (g_assign (v := .int .i64 (((t : Nat) : Int))) rfl) rfl ?_
        refine wl_nil ?_
        refine hK24 _ _ ?_
        refine w_ret ?_
        exact ret1 rfl (by decide) ⟨congrArg (Value.int .i64) (quiet_good (t := t) h9 hr.out ht (by omega)).symm, toExt hB21⟩
theorem implQuiet_fn {lo hi : Nat} {a : Option Addr} {c : Nat} {xs : List Stay} {w : World} (hx : Cells lo hi w a (xs.flatMap stC)) (hhi : hi ≤ w.heap.size) (hl : xs.length ≤ 1099511627776) :
    Fn Try.prog 22 #[.slice a (xs.length) (c)] w (RetV w (.int .i64 (quietTick xs))) := by
  refine fn_of_wp Try.func22 rfl (by kernel_rfl) (Nat.le_of_ble_eq_true rfl) ?_
  have hB0 := Below.refl w.heap.size w
  have hz0 := hB0.size
  refine w_seq fun K1 hK1 => ?_
  refine w_region ?_
  refine wl_val (g_assign (v := .int .i64 (0)) rfl) rfl ?_
  refine wl_nil ?_
  refine hK1 _ _ ?_
  refine w_seq fun K2 hK2 => ?_
  refine w_seq fun K3 hK3 => ?_
  refine w_region ?_
  refine wl_val (g_move (v := .slice a (xs.length) (c)) rfl) rfl ?_
  refine wl_step rfl (g_call (vs := #[.slice a (xs.length) (c)]) CF17 (args1 rfl) (implStaysOk_fn (Cells.below hx hB0 (by omega)) (by omega) (by omega))) ?_
  rintro _ w4 ⟨rfl, hE5⟩
  have hs6 := hE5.size
  have hB7 := Ext.below hB0 hE5 (by omega)
  have hz8 := hB7.size
  refine wl_val (g_not (a := ((staysOk xs))) rfl) rfl ?_
  refine wl_nil ?_
  refine hK3 _ _ ?_
  refine w_cond (b := (!((staysOk xs)))) rfl (fun h9 => ?_) (fun h9 => ?_)
  · replace h9 := bt_not h9
    refine w_seq fun K10 hK10 => ?_
    refine w_region ?_
    refine wl_val (g_assign (v := .int .i64 ((-1))) rfl) rfl ?_
    refine wl_nil ?_
    refine hK10 _ _ ?_
    refine w_ret ?_
    exact ret1 rfl (by decide) ⟨congrArg (Value.int .i64) (quiet_bad h9).symm, toExt hB7⟩
  · replace h9 := bf_not h9
    refine w_skip ?_
    refine hK2 _ _ ?_
    refine w_seq fun K11 hK11 => ?_
    refine w_region ?_
    refine wl_val (g_assign (v := .int .i64 (0)) rfl) rfl ?_
    refine wl_nil ?_
    refine hK11 _ _ ?_
    refine w_seq fun K12 hK12 => ?_
    refine w_block ?_
    refine w_for (σ := Nat) (fun t => [(0, .slice a (xs.length) (c)), (3, .int .i64 (((t : Nat) : Int)))]) (fun t w' => (t ≤ 1000) ∧ (Hid (quietF xs 1001 0 = quietF xs (1001 - t) t)) ∧ (Below w.heap.size w w')) (fun t => 1001 - t) (0) ⟨rfl, rfl, trivial⟩ ?_ ?_
    · exact ⟨Nat.zero_le _, rfl, hB7⟩
    · rintro t b15 w13 ⟨ht, hr, hB1⟩
      show Wp _ _ _ _ (upds b15 [(0, .slice a (xs.length) (c)), (3, .int .i64 (((t : Nat) : Int)))]) w13
      have hB1z := hB1.size
      refine w_seq fun K16 hK16 => ?_
      refine w_seq fun K17 hK17 => ?_
      refine w_region ?_
      refine wl_val (g_move (v := .slice a (xs.length) (c)) rfl) rfl ?_
      refine wl_val (g_move (v := .int .i64 (((t : Nat) : Int))) rfl) rfl ?_
      refine wl_step rfl (g_call (vs := #[.slice a (xs.length) (c), .int .i64 (((t : Nat) : Int)), .func (.func 39) #[] #[]]) CF38 (args3 rfl rfl rfl) (isBusy_fn (f := 39) (cap := #[]) CF39 (fun _ => true) (((t : Nat) : Int)) (fun p w' _ => quiet1_fn p) (Cells.below hx hB1 (by omega)) (by omega) (by omega))) ?_
      rintro _ w18 ⟨rfl, hE19⟩
      have hs20 := hE19.size
      have hB21 := Ext.below hB1 hE19 (by omega)
      have hz22 := hB21.size
      refine wl_nil ?_
      refine hK17 _ _ ?_
      refine w_cond (b := ((xs.any (busyS (fun _ => true) (((t : Nat) : Int)))))) rfl (fun h23 => ?_) (fun h23 => ?_)
      · refine w_skip ?_
        refine hK16 _ _ ?_
        refine w_block ?_
        refine w_region ?_
        refine wl_val (g_move (v := .int .i64 (((t : Nat) : Int))) rfl) rfl ?_
        refine wl_val (g_add (a := ((t : Nat) : Int)) (b := 1) rfl rfl ⟨by omega, by omega⟩) rfl ?_
        refine wl_val (g_assign (v := .int .i64 ((((t : Nat) : Int) + 1))) rfl) rfl ?_
        refine wl_nil ?_
        exact ⟨(t + 1), (by first | omega | (dsimp only; omega)), ⟨rfl, rfl, trivial⟩, ⟨by have := at_lt (t := ((t : Nat) : Int)) h9 (busy_all.1 h23); omega, hr.out.trans (quiet_step (t := t) ht (busy_all.1 h23)), hB21⟩⟩
      · refine w_exit ?_
        refine hK12 _ _ ?_
        refine w_seq fun K24 hK24 => ?_
        refine w_region ?_
        refine wl_val (g_move (v := .int .i64 (((t : Nat) : Int))) rfl) rfl ?_
        refine wl_val (g_assign (v := .int .i64 (((t : Nat) : Int))) rfl) rfl ?_
        refine wl_nil ?_
        refine hK24 _ _ ?_
        refine w_ret ?_
        exact ret1 rfl (by decide) ⟨congrArg (Value.int .i64) (quiet_good (t := t) h9 hr.out ht (fun hx => by have := busy_all.2 hx; simp_all)).symm, toExt hB21⟩
theorem implBusy_fn {lo hi : Nat} {a : Option Addr} {c : Nat} {xs : List Stay} (p : Int) {w : World} (hx : Cells lo hi w a (xs.flatMap stC)) (hhi : hi ≤ w.heap.size) (hl : xs.length ≤ 1099511627776) :
    Fn Try.prog 24 #[.slice a (xs.length) (c), .int .i64 (p)] w (RetV w (.int .i64 (busyTicks xs p))) := by
  refine fn_of_wp Try.func24 rfl (by kernel_rfl) (Nat.le_of_ble_eq_true rfl) ?_
  have hB0 := Below.refl w.heap.size w
  have hz0 := hB0.size
  refine w_seq fun K1 hK1 => ?_
  refine w_region ?_
  refine wl_step rfl (g_box (cs := #[.int .i64 (p)]) rfl rfl) ?_
  rintro _ w2 ⟨g3, rfl, hg4, hb5, hE6⟩
  have hs7 := hE6.size
  have hB8 := Ext.below hB0 hE6 (by omega)
  have hz9 := hB8.size
  refine wl_val (g_assign (v := .int .i64 (0)) rfl) rfl ?_
  refine wl_nil ?_
  refine hK1 _ _ ?_
  refine w_seq fun K11 hK11 => ?_
  refine w_seq fun K12 hK12 => ?_
  refine w_region ?_
  refine wl_val (g_move (v := .slice a (xs.length) (c)) rfl) rfl ?_
  refine wl_step rfl (g_call (vs := #[.slice a (xs.length) (c)]) CF17 (args1 rfl) (implStaysOk_fn (Cells.below hx hB8 (by omega)) (by omega) (by omega))) ?_
  rintro _ w13 ⟨rfl, hE14⟩
  have hs15 := hE14.size
  have hB16 := Ext.below hB8 hE14 (by omega)
  have hz17 := hB16.size
  have hb18 := hb5.ext hE14
  refine wl_val (g_not (a := ((staysOk xs))) rfl) rfl ?_
  refine wl_nil ?_
  refine hK12 _ _ ?_
  refine w_cond (b := (!((staysOk xs)))) rfl (fun h19 => ?_) (fun h19 => ?_)
  · replace h19 := bt_not h19
    refine w_seq fun K20 hK20 => ?_
    refine w_region ?_
    refine wl_val (g_assign (v := .int .i64 ((-1))) rfl) rfl ?_
    refine wl_nil ?_
    refine hK20 _ _ ?_
    refine w_ret ?_
    exact ret1 rfl (by decide) ⟨congrArg (Value.int .i64) (busyT_bad h19).symm, toExt hB16⟩
  · replace h19 := bf_not h19
    refine w_skip ?_
    refine hK11 _ _ ?_
    refine w_seq fun K21 hK21 => ?_
    refine w_region ?_
    refine wl_val (g_assign (v := .int .i64 (0)) rfl) rfl ?_
    refine wl_nil ?_
    refine hK21 _ _ ?_
    refine w_seq fun K22 hK22 => ?_
    refine w_seq fun K23 hK23 => ?_
    refine w_region ?_
    refine wl_val (g_move (v := .int .i64 (0)) rfl) rfl ?_
    refine wl_nil ?_
    refine hK23 _ _ ?_
    refine w_block ?_
    refine w_for (σ := Nat) (fun t => [(0, .slice a (xs.length) (c)), (3, .pointer (some ((⟨g3, 0, none⟩ : Addr)))), (5, .int .i64 (((cntB (ownOf p xs) t : Nat) : Int))), (10, .int .i64 (((t : Nat) : Int)))]) (fun t w' => (t ≤ 1000) ∧ (Hid (cntB (ownOf p xs) t ≤ t)) ∧ (Below w.heap.size w w') ∧ (Blk w' g3 3 #[.int .i64 (p)])) (fun t => 1001 - t) (0) ⟨rfl, rfl, rfl, rfl, trivial⟩ ?_ ?_
    · exact ⟨Nat.zero_le _, Nat.le_refl _, hB16, hb18⟩
    · rintro t b27 w25 ⟨ht, hc, hB1, hq24⟩
      show Wp _ _ _ _ (upds b27 [(0, .slice a (xs.length) (c)), (3, .pointer (some ((⟨g3, 0, none⟩ : Addr)))), (5, .int .i64 (((cntB (ownOf p xs) t : Nat) : Int))), (10, .int .i64 (((t : Nat) : Int)))]) w25
      have hB1z := hB1.size
      have hc2 := hc.out
      refine w_seq fun K28 hK28 => ?_
      refine w_region ?_
      refine wl_val (g_lss (a := ((t : Nat) : Int)) (b := 1000) rfl rfl) rfl ?_
      refine wl_nil ?_
      refine hK28 _ _ ?_
      refine w_seq fun K29 hK29 => ?_
      refine w_cond_d (p := ((t : Nat) : Int) < 1000) rfl (fun h30 => ?_) (fun h30 => ?_)
      · refine w_skip ?_
        refine hK29 _ _ ?_
        refine w_seq fun K31 hK31 => ?_
        refine w_block ?_
        refine w_seq fun K32 hK32 => ?_
        refine w_region ?_
        refine wl_val (g_move (v := .int .i64 (((t : Nat) : Int))) rfl) rfl ?_
        refine wl_val (g_assign (v := .int .i64 (((t : Nat) : Int))) rfl) rfl ?_
        refine wl_nil ?_
        refine hK32 _ _ ?_
        refine w_seq fun K33 hK33 => ?_
        refine w_region ?_
        refine wl_val (g_move (v := .slice a (xs.length) (c)) rfl) rfl ?_
        refine wl_val (g_move (v := .int .i64 (((t : Nat) : Int))) rfl) rfl ?_
        refine wl_val (g_makeFunc (vs := #[.pointer (some ((⟨g3, 0, none⟩ : Addr)))]) (args1 rfl)) rfl ?_
        refine wl_step rfl (g_call (vs := #[.slice a (xs.length) (c), .int .i64 (((t : Nat) : Int)), .func (.func 40) #[] #[.pointer (some ((⟨g3, 0, none⟩ : Addr)))]]) CF38 (args3 rfl rfl rfl) (isBusy_fn (f := 40) (cap := #[.pointer (some ((⟨g3, 0, none⟩ : Addr)))]) CF40 (fun q => decide (q = p)) (((t : Nat) : Int)) (fun q w' hb => busy1_fn q p (Blk.ext hq24 (toExt hb))) (Cells.below hx hB1 (by omega)) (by omega) (by omega))) ?_
        rintro _ w34 ⟨rfl, hE35⟩
        have hs36 := hE35.size
        have hB37 := Ext.below hB1 hE35 (by omega)
        have hz38 := hB37.size
        have hb39 := hq24.ext hE35
        refine wl_nil ?_
        refine hK33 _ _ ?_
        refine w_cond (b := ((xs.any (busyS (fun q => decide (q = p)) (((t : Nat) : Int)))))) rfl (fun h40 => ?_) (fun h40 => ?_)
        · refine w_region ?_
          refine wl_val (g_move (v := .int .i64 (((cntB (ownOf p xs) t : Nat) : Int))) rfl) rfl ?_
          refine wl_val (g_add (a := ((cntB (ownOf p xs) t : Nat) : Int)) (b := 1) rfl rfl ⟨by omega, by omega⟩) rfl ?_
          refine wl_val (g_assign (v := .int .i64 ((((cntB (ownOf p xs) t : Nat) : Int) + 1))) rfl) rfl ?_
          refine wl_nil ?_
          refine hK31 _ _ ?_
          refine w_region ?_
          refine wl_val (g_add (a := ((t : Nat) : Int)) (b := 1) rfl rfl ⟨by omega, by omega⟩) rfl ?_
          refine wl_val (g_move (v := .int .i64 ((((t : Nat) : Int) + 1))) rfl) rfl ?_
          refine wl_nil ?_
          exact ⟨(t + 1), (by first | omega | (dsimp only; omega)), ⟨rfl, rfl, congrArg (Value.int .i64) (cnt_yes (busy_own.1 h40)), rfl, trivial⟩, ⟨by omega, cntB_le _ _, hB37, hb39⟩⟩
        · refine w_skip ?_
          refine hK31 _ _ ?_
          refine w_region ?_
          refine wl_val (g_add (a := ((t : Nat) : Int)) (b := 1) rfl rfl ⟨by omega, by omega⟩) rfl ?_
          refine wl_val (g_move (v := .int .i64 ((((t : Nat) : Int) + 1))) rfl) rfl ?_
          refine wl_nil ?_
          exact ⟨(t + 1), (by first | omega | (dsimp only; omega)), ⟨rfl, rfl, congrArg (Value.int .i64) (cnt_no (fun hx => by have := busy_own.2 hx; simp_all)), rfl, trivial⟩, ⟨by omega, cntB_le _ _, hB37, hb39⟩⟩
      · refine w_exit ?_
        refine hK22 _ _ ?_
        refine w_seq fun K41 hK41 => ?_
        refine w_region ?_
        refine wl_val (g_move (v := .int .i64 (((cntB (ownOf p xs) t : Nat) : Int))) rfl) rfl ?_
        refine wl_val (g_assign (v := .int .i64 (((cntB (ownOf p xs) t : Nat) : Int))) rfl) rfl ?_
        refine wl_nil ?_
        refine hK41 _ _ ?_
        refine w_ret ?_
        exact ret1 rfl (by decide) ⟨congrArg (Value.int .i64) (busyT_good h19 ht (by omega)).symm, toExt hB1⟩
theorem specBusy_fn {lo hi : Nat} {a : Option Addr} {c : Nat} {xs : List Stay} (p : Int) {w : World} (hx : Cells lo hi w a (xs.flatMap stC)) (hhi : hi ≤ w.heap.size) (hl : xs.length ≤ 1099511627776) :
    Fn Try.prog 23 #[.slice a (xs.length) (c), .int .i64 (p)] w (RetV w (.int .i64 (busyTicks xs p))) := by
  refine fn_of_wp Try.func23 rfl (by kernel_rfl) (Nat.le_of_ble_eq_true rfl) ?_
  have hB0 := Below.refl w.heap.size w
  have hz0 := hB0.size
  refine w_seq fun K1 hK1 => ?_
  refine w_region ?_
  refine wl_val (g_assign (v := .int .i64 (0)) rfl) rfl ?_
  refine wl_nil ?_
  refine hK1 _ _ ?_
  refine w_seq fun K2 hK2 => ?_
  refine w_seq fun K3 hK3 => ?_
  refine w_region ?_
  refine wl_val (g_move (v := .slice a (xs.length) (c)) rfl) rfl ?_
  refine wl_step rfl (g_call (vs := #[.slice a (xs.length) (c)]) CF15 (args1 rfl) (specStaysOk_fn (Cells.below hx hB0 (by omega)) (by omega) (by omega))) ?_
  rintro _ w4 ⟨rfl, hE5⟩
  have hs6 := hE5.size
  have hB7 := Ext.below hB0 hE5 (by omega)
  have hz8 := hB7.size
  refine wl_val (g_not (a := ((staysOk xs))) rfl) rfl ?_
  refine wl_nil ?_
  refine hK3 _ _ ?_
  refine w_cond (b := (!((staysOk xs)))) rfl (fun h9 => ?_) (fun h9 => ?_)
  · replace h9 := bt_not h9
    refine w_seq fun K10 hK10 => ?_
    refine w_region ?_
    refine wl_val (g_assign (v := .int .i64 ((-1))) rfl) rfl ?_
    refine wl_nil ?_
    refine hK10 _ _ ?_
    refine w_ret ?_
    exact ret1 rfl (by decide) ⟨congrArg (Value.int .i64) (busyT_bad h9).symm, toExt hB7⟩
  · replace h9 := bf_not h9
    refine w_skip ?_
    refine hK2 _ _ ?_
    refine w_seq fun K11 hK11 => ?_
    refine w_region ?_
    refine wl_step rfl (g_bslice0  SL30 ) ?_
    rintro _ w12 ⟨a13, rfl, hO14, hE15⟩
    have hO14 : Own _ _ _ _ a13 0 0 (([]).flatMap stC) := hO14
    have hs16 := hE15.size
    have hB17 := Ext.below hB7 hE15 (by omega)
    have hz18 := hB17.size
    refine wl_val (g_assign (v := .slice a13 (0) (0)) rfl) rfl ?_
    refine wl_nil ?_
    refine hK11 _ _ ?_
    refine w_seq fun K19 hK19 => ?_
    refine w_seq fun K20 hK20 => ?_
    refine w_region ?_
    refine wl_val (g_assign (v := .int .i64 (0)) rfl) rfl ?_
    refine wl_nil ?_
    refine hK20 _ _ ?_
    refine w_block ?_
    refine w_for (σ := Nat × List Stay × Nat × Option Addr × Nat) (fun ⟨k, l, n, o, oc⟩ => [(0, .slice a (xs.length) (c)), (1, .int .i64 (p)), (5, .slice o (n) (oc)), (6, .int .i64 (((k : Nat) : Int)))]) (fun ⟨k, l, n, o, oc⟩ w' => (k ≤ xs.length) ∧ (l = ownOf p (xs.take k)) ∧ (n = l.length) ∧ (n ≤ k) ∧ (Own w' w.heap.size 42 3 o n oc (l.flatMap stC)) ∧ (Below w.heap.size w w')) (fun ⟨k, l, n, o, oc⟩ => xs.length - k) (0, [], 0, a13, 0) ⟨rfl, rfl, rfl, rfl, trivial⟩ ?_ ?_
    · exact ⟨Nat.zero_le _, rfl, rfl, Nat.le_refl _, hO14.mono (by omega), hB17⟩
    · rintro ⟨k, l, n, o, oc⟩ b23 w21 ⟨hk, hl1, hn, hnk, hO, hB1⟩
      show Wp _ _ _ _ (upds b23 [(0, .slice a (xs.length) (c)), (1, .int .i64 (p)), (5, .slice o (n) (oc)), (6, .int .i64 (((k : Nat) : Int)))]) w21
      have hB1z := hB1.size
      refine w_seq fun K24 hK24 => ?_
      refine w_seq fun K25 hK25 => ?_
      refine w_region ?_
      refine wl_val (g_move (v := .int .i64 (((k : Nat) : Int))) rfl) rfl ?_
      refine wl_val (g_move (v := .slice a (xs.length) (c)) rfl) rfl ?_
      refine wl_val (g_len' (a := a) (l := (xs.length)) (c := c) SL30 rfl) rfl ?_
      refine wl_val (g_lss (a := ((k : Nat) : Int)) (b := ((xs.length : Nat) : Int)) rfl rfl) rfl ?_
      refine wl_nil ?_
      refine hK25 _ _ ?_
      refine w_cond_d (p := ((k : Nat) : Int) < ((xs.length : Nat) : Int)) rfl (fun h26 => ?_) (fun h26 => ?_)
      · refine w_skip ?_
        refine hK24 _ _ ?_
        refine w_seq fun K27 hK27 => ?_
        refine w_block ?_
        refine w_seq fun K28 hK28 => ?_
        refine w_region ?_
        refine wl_val (g_move (v := .slice a (xs.length) (c)) rfl) rfl ?_
        refine wl_val (g_move (v := .int .i64 (((k : Nat) : Int))) rfl) rfl ?_
        refine wl_val (g_index (a := a) (l := (xs.length)) (c := c) (i := ((k : Nat) : Int)) SL30 rfl rfl (Stay_some (i := ((k : Nat) : Int)) (Cells.below hx hB1 (by omega)) (by omega) (by omega)) (by omega) (by omega)) rfl ?_
        refine wl_val (g_fieldAddr (q := (adr a).add (k * 3)) FL42_0 ON3 rfl) rfl ?_
        refine wl_val (g_load1 (q := ((adr a).add (k * 3)).add 0) (v := .int .i64 (xs[k]!.1)) ON3 rfl (Stay_c0 (i := ((k : Nat) : Int)) (Cells.below hx hB1 (by omega)) (by omega) (by omega))) rfl ?_
        refine wl_val (g_move (v := .int .i64 (p)) rfl) rfl ?_
        refine wl_val (g_eql (a := xs[k]!.1) (b := p) rfl rfl) rfl ?_
        refine wl_nil ?_
        refine hK28 _ _ ?_
        refine w_cond_d (p := xs[k]!.1 = p) rfl (fun h29 => ?_) (fun h29 => ?_)
        · refine w_region ?_
          refine wl_val (g_move (v := .slice o (n) (oc)) rfl) rfl ?_
          refine wl_val (g_move (v := .slice a (xs.length) (c)) rfl) rfl ?_
          refine wl_val (g_move (v := .int .i64 (((k : Nat) : Int))) rfl) rfl ?_
          refine wl_val (g_index (a := a) (l := (xs.length)) (c := c) (i := ((k : Nat) : Int)) SL30 rfl rfl (Stay_some (i := ((k : Nat) : Int)) (Cells.below hx hB1 (by omega)) (by omega) (by omega)) (by omega) (by omega)) rfl ?_
          refine wl_val (g_loadS (q := (adr a).add (k * 3)) (cs := [.int .i64 (xs[k]!.1), .int .i64 (xs[k]!.2.1), .int .i64 (xs[k]!.2.2)]) AG42 rfl (Stay_all (i := ((k : Nat) : Int)) (Cells.below hx hB1 (by omega)) (by omega) (by omega))) rfl ?_
          refine wl_step rfl (g_bslice1 (v := .agg #[.int .i64 (xs[k]!.1), .int .i64 (xs[k]!.2.1), .int .i64 (xs[k]!.2.2)]) (vs := [.int .i64 (xs[k]!.1), .int .i64 (xs[k]!.2.1), .int .i64 (xs[k]!.2.2)]) SL30 rfl rfl rfl (by decide)) ?_
          rintro _ w30 ⟨a31, rfl, hO32, hE33⟩
          have hO32 : Own _ _ _ _ a31 1 1 (([(xs[k]!.1, xs[k]!.2.1, xs[k]!.2.2)]).flatMap stC) := hO32
          have hs34 := hE33.size
          have hB35 := Ext.below hB1 hE33 (by omega)
          have hz36 := hB35.size
          have hown37 := hO.ext hE33
          refine wl_step rfl (g_append SL30 rfl rfl hown37 (Own.cells hO32) (by simp [stC]) hO32.nil0 (by simp [Value.oneCell', stC]) (by unfold maxLen; first | omega | (simp; omega)) (by first | omega | (simp; omega)) (by omega)) ?_
          rintro _ w39 ⟨a40, c41, rfl, hO42, hC43, hF44⟩
          rw [← List.flatMap_append] at hO42
          have hs45 := hC43.size
          have hB46 := Chg.below hB35 hC43 (by omega) (fun k hk => by have := hown37.lt k hk; omega)
          have hz47 := hB46.size
          refine wl_val (g_assign (v := .slice a40 (n + 1) (c41)) rfl) rfl ?_
          refine wl_nil ?_
          refine hK27 _ _ ?_
          refine w_region ?_
          refine wl_val (g_move (v := .int .i64 (((k : Nat) : Int))) rfl) rfl ?_
          refine wl_val (g_add (a := ((k : Nat) : Int)) (b := 1) rfl rfl ⟨by omega, by omega⟩) rfl ?_
          refine wl_val (g_assign (v := .int .i64 ((((k : Nat) : Int) + 1))) rfl) rfl ?_
          refine wl_nil ?_
          exact ⟨(k + 1, l ++ [xs[k]!], n + 1, a40, c41), (by first | omega | (dsimp only; omega)), ⟨rfl, rfl, rfl, rfl, trivial⟩, ⟨by omega, own_yes (by omega) hl1 h29, by simp; omega, by omega, hO42, hB46⟩⟩
        · refine w_skip ?_
          refine hK27 _ _ ?_
          refine w_region ?_
          refine wl_val (g_move (v := .int .i64 (((k : Nat) : Int))) rfl) rfl ?_
          refine wl_val (g_add (a := ((k : Nat) : Int)) (b := 1) rfl rfl ⟨by omega, by omega⟩) rfl ?_
          refine wl_val (g_assign (v := .int .i64 ((((k : Nat) : Int) + 1))) rfl) rfl ?_
          refine wl_nil ?_
          exact ⟨(k + 1, l, n, o, oc), (by first | omega | (dsimp only; omega)), ⟨rfl, rfl, rfl, rfl, trivial⟩, ⟨by omega, own_no (by omega) hl1 h29, hn, by omega, hO, hB1⟩⟩
      · refine w_exit ?_
        have hl2 := own_all (by omega) hl1
        subst hn
        refine hK19 _ _ ?_
        refine w_seq fun K49 hK49 => ?_
        refine w_region ?_
        refine wl_val (g_assign (v := .int .i64 (0)) rfl) rfl ?_
        refine wl_nil ?_
        refine hK49 _ _ ?_
        refine w_seq fun K50 hK50 => ?_
        refine w_seq fun K51 hK51 => ?_
        refine w_region ?_
        refine wl_val (g_assign (v := .int .i64 (0)) rfl) rfl ?_
        refine wl_nil ?_
        refine hK51 _ _ ?_
        refine w_block ?_
        refine w_for (σ := Nat) (fun t => [(5, .slice o (l.length) (oc)), (7, .int .i64 (((cntB l t : Nat) : Int))), (8, .int .i64 (((t : Nat) : Int)))]) (fun t w' => (t ≤ 1000) ∧ (Hid (cntB l t ≤ t)) ∧ (Below w.heap.size w w') ∧ (Own w' w.heap.size 42 3 o l.length oc (l.flatMap stC))) (fun t => 1001 - t) (0) ⟨rfl, rfl, rfl, trivial⟩ ?_ ?_
        · exact ⟨Nat.zero_le _, Nat.le_refl _, hB1, hO⟩
        · rintro t b55 w53 ⟨ht, hc, hB2, hq52⟩
          show Wp _ _ _ _ (upds b55 [(5, .slice o (l.length) (oc)), (7, .int .i64 (((cntB l t : Nat) : Int))), (8, .int .i64 (((t : Nat) : Int)))]) w53
          have hB2z := hB2.size
          have hc2 := hc.out
          refine w_seq fun K56 hK56 => ?_
          refine w_seq fun K57 hK57 => ?_
          refine w_region ?_
          refine wl_val (g_move (v := .int .i64 (((t : Nat) : Int))) rfl) rfl ?_
          refine wl_val (g_lss (a := ((t : Nat) : Int)) (b := 1000) rfl rfl) rfl ?_
          refine wl_nil ?_
          refine hK57 _ _ ?_
          refine w_cond_d (p := ((t : Nat) : Int) < 1000) rfl (fun h58 => ?_) (fun h58 => ?_)
          · refine w_skip ?_
            refine hK56 _ _ ?_
            refine w_seq fun K59 hK59 => ?_
            refine w_block ?_
            refine w_seq fun K60 hK60 => ?_
            refine w_region ?_
            refine wl_val (g_move (v := .slice o (l.length) (oc)) rfl) rfl ?_
            refine wl_val (g_move (v := .int .i64 (((t : Nat) : Int))) rfl) rfl ?_
            refine wl_step rfl (g_call (vs := #[.slice o (l.length) (oc), .int .i64 (((t : Nat) : Int))]) CF37 (args2 rfl rfl) (at_fn (((t : Nat) : Int)) (Own.cells hq52) (by omega) (by omega))) ?_
            rintro _ w61 ⟨rfl, hE62⟩
            have hs63 := hE62.size
            have hB64 := Ext.below hB2 hE62 (by omega)
            have hz65 := hB64.size
            have hown66 := hq52.ext hE62
            refine wl_val (g_gtr (a := ((atN l (((t : Nat) : Int)) : Nat) : Int)) (b := 0) rfl rfl) rfl ?_
            refine wl_nil ?_
            refine hK60 _ _ ?_
            refine w_cond_d (p := ((atN l (((t : Nat) : Int)) : Nat) : Int) > 0) rfl (fun h67 => ?_) (fun h67 => ?_)
            · refine w_region ?_
              refine wl_val (g_move (v := .int .i64 (((cntB l t : Nat) : Int))) rfl) rfl ?_
              refine wl_val (g_add (a := ((cntB l t : Nat) : Int)) (b := 1) rfl rfl ⟨by omega, by omega⟩) rfl ?_
              refine wl_val (g_assign (v := .int .i64 ((((cntB l t : Nat) : Int) + 1))) rfl) rfl ?_
              refine wl_nil ?_
              refine hK59 _ _ ?_
              refine w_region ?_
              refine wl_val (g_move (v := .int .i64 (((t : Nat) : Int))) rfl) rfl ?_
              refine wl_val (g_add (a := ((t : Nat) : Int)) (b := 1) rfl rfl ⟨by omega, by omega⟩) rfl ?_
              refine wl_val (g_assign (v := .int .i64 ((((t : Nat) : Int) + 1))) rfl) rfl ?_
              refine wl_nil ?_
              exact ⟨(t + 1), (by first | omega | (dsimp only; omega)), ⟨rfl, congrArg (Value.int .i64) (cnt_yes (by omega)), rfl, trivial⟩, ⟨by omega, cntB_le _ _, hB64, hown66⟩⟩
            · refine w_skip ?_
              refine hK59 _ _ ?_
              refine w_region ?_
              refine wl_val (g_move (v := .int .i64 (((t : Nat) : Int))) rfl) rfl ?_
              refine wl_val (g_add (a := ((t : Nat) : Int)) (b := 1) rfl rfl ⟨by omega, by omega⟩) rfl ?_
              refine wl_val (g_assign (v := .int .i64 ((((t : Nat) : Int) + 1))) rfl) rfl ?_
              refine wl_nil ?_
              exact ⟨(t + 1), (by first | omega | (dsimp only; omega)), ⟨rfl, congrArg (Value.int .i64) (cnt_no (by omega)), rfl, trivial⟩, ⟨by omega, cntB_le _ _, hB64, hown66⟩⟩
          · refine w_exit ?_
            refine hK50 _ _ ?_
            refine w_seq fun K68 hK68 => ?_
            refine w_region ?_
            refine wl_val (g_move (v := .int .i64 (((cntB l t : Nat) : Int))) rfl) rfl ?_
            refine wl_val (g_assign (v := .int .i64 (((cntB l t : Nat) : Int))) rfl) rfl ?_
            refine wl_nil ?_
            refine hK68 _ _ ?_
            refine w_ret ?_
            exact ret1 rfl (by decide) ⟨congrArg (Value.int .i64) (hl2 ▸ (busyT_good h9 ht (by omega)).symm), toExt hB2⟩
end Go.Proofs.Ytenoommpckddlaa
