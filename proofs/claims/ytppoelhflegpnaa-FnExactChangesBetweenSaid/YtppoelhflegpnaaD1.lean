import Derived.Test.YtppoelhflegpnaaFacts
import Derived.Test.YtppoelhflegpnaaPlainD
namespace Go.Proofs.Ytppoelhflegpnaa
open Go Go.RowKit
set_option maxRecDepth 100000
theorem toIntS_fn {lo hi : Nat} {a : Option Addr} {c : Nat} {xs : List Int} {w : World} (hx : Cells lo hi w a (intsC xs)) (hhi : hi ≤ w.heap.size) (hl : xs.length ≤ 1099511627776) :
    Fn Try.prog 27 #[.slice a (xs.length) (c)] w (RetS w 3 1 xs.length (intsC xs)) := by
  refine fn_of_wp Try.func27 rfl (by kernel_rfl) (Nat.le_of_ble_eq_true rfl) ?_
  have hB0 := Below.refl w.heap.size w
  have hz0 := hB0.size
  refine w_seq fun K1 hK1 => ?_
  refine w_region ?_
  refine wl_val (g_assign (v := .slice none (0) (0)) rfl) rfl ?_
  refine wl_nil ?_
  refine hK1 _ _ ?_
  refine w_seq fun K2 hK2 => ?_
  refine w_region ?_
  refine wl_val (g_move (v := .slice a (xs.length) (c)) rfl) rfl ?_
  refine wl_val (g_len' (a := a) (l := (xs.length)) (c := c) SL22 rfl) rfl ?_
  refine wl_step rfl (g_make (k := xs.length) SL22 rfl (by omega) (by unfold maxLen; omega)) ?_
  rintro _ w3 ⟨o, rfl, hO4, hE5⟩
  rw [made_int] at hO4
  have hs6 := hE5.size
  have hB7 := Ext.below hB0 hE5 (by omega)
  have hz8 := hB7.size
  refine wl_val (g_assign (v := .slice o (xs.length) (xs.length)) rfl) rfl ?_
  refine wl_nil ?_
  refine hK2 _ _ ?_
  refine w_seq fun K9 hK9 => ?_
  refine w_seq fun K10 hK10 => ?_
  refine w_region ?_
  refine wl_val (g_assign (v := .int .i64 (0)) rfl) rfl ?_
  refine wl_nil ?_
  refine hK10 _ _ ?_
  refine w_block ?_
  refine w_for (σ := Nat × List Int) (fun ⟨k, l⟩ => [(0, .slice a (xs.length) (c)), (3, .slice o (xs.length) (xs.length)), (4, .int .i64 (((k : Nat) : Int)))]) (fun ⟨k, l⟩ w' => (k ≤ xs.length) ∧ (l.length = xs.length) ∧ (l.take k = xs.take k) ∧ (Own w' w.heap.size 3 1 o xs.length xs.length (intsC l)) ∧ (Below w.heap.size w w')) (fun ⟨k, l⟩ => xs.length - k) (0, List.replicate xs.length (0 : Int)) ⟨rfl, rfl, rfl, trivial⟩ ?_ ?_
  · exact ⟨Nat.zero_le _, by simp, by simp, hO4.mono (by omega), hB7⟩
  · rintro ⟨k, l⟩ b13 w11 ⟨hk, hll, ht, hO, hB1⟩
    show Wp _ _ _ _ (upds b13 [(0, .slice a (xs.length) (c)), (3, .slice o (xs.length) (xs.length)), (4, .int .i64 (((k : Nat) : Int)))]) w11
    have hB1z := hB1.size
    refine w_seq fun K14 hK14 => ?_
    refine w_seq fun K15 hK15 => ?_
    refine w_region ?_
    refine wl_val (g_move (v := .int .i64 (((k : Nat) : Int))) rfl) rfl ?_
    refine wl_val (g_move (v := .slice a (xs.length) (c)) rfl) rfl ?_
    refine wl_val (g_len' (a := a) (l := (xs.length)) (c := c) SL22 rfl) rfl ?_
    refine wl_val (g_lss (a := ((k : Nat) : Int)) (b := ((xs.length : Nat) : Int)) rfl rfl) rfl ?_
    refine wl_nil ?_
    refine hK15 _ _ ?_
    refine w_cond_d (p := ((k : Nat) : Int) < ((xs.length : Nat) : Int)) rfl (fun h16 => ?_) (fun h16 => ?_)
    · refine w_skip ?_
      refine hK14 _ _ ?_
      refine w_seq fun K17 hK17 => ?_
      refine w_block ?_
      refine w_region ?_
      refine wl_val (g_move (v := .slice o (xs.length) (xs.length)) rfl) rfl ?_
      refine wl_val (g_move (v := .int .i64 (((k : Nat) : Int))) rfl) rfl ?_
      refine wl_val (g_move (v := .slice a (xs.length) (c)) rfl) rfl ?_
      refine wl_val (g_move (v := .int .i64 (((k : Nat) : Int))) rfl) rfl ?_
      refine wl_val (g_index (a := a) (l := (xs.length)) (c := c) (i := ((k : Nat) : Int)) SL22 rfl rfl (Cells.intSome (i := ((k : Nat) : Int)) (Cells.below hx hB1 (by omega)) (by omega) (by omega)) (by omega) (by omega)) rfl ?_
      refine wl_val (g_load1 (q := (adr a).add (k * 1)) (v := .int .i64 (xs[k]!)) ON3 rfl (Cells.int (i := ((k : Nat) : Int)) (Cells.below hx hB1 (by omega)) (by omega) (by omega))) rfl ?_
      refine wl_val (g_index (a := o) (l := (xs.length)) (c := (xs.length)) (i := ((k : Nat) : Int)) SL22 rfl rfl (Cells.intSome (i := ((k : Nat) : Int)) (Own.cells hO) (by omega) (by first | omega | (simp; omega))) (by omega) (by omega)) rfl ?_
      refine wl_step rfl (g_store_one (f := (Value.int .i64)) (xs := l) (i := k) (v := xs[k]!) hO ON3 rfl rfl rfl rfl (by first | omega | (simp; omega))) ?_
      rintro _ w18 ⟨rfl, hO20, hC19⟩
      have hs21 := hC19.size
      have hB22 := Chg.below hB1 hC19 (by omega) (fun k hk => by have := hO.lt k hk; omega)
      have hz23 := hB22.size
      refine wl_nil ?_
      refine hK17 _ _ ?_
      refine w_region ?_
      refine wl_val (g_move (v := .int .i64 (((k : Nat) : Int))) rfl) rfl ?_
      refine wl_val (g_add (a := ((k : Nat) : Int)) (b := 1) rfl rfl ⟨by omega, by omega⟩) rfl ?_
      refine wl_val (g_assign (v := .int .i64 ((((k : Nat) : Int) + 1))) rfl) rfl ?_
      refine wl_nil ?_
      exact ⟨(k + 1, l.set k xs[k]!), (by first | omega | (dsimp only; omega)), ⟨rfl, rfl, rfl, trivial⟩, ⟨by omega, by simp; omega, Holds_set l xs k hll (by omega) ht, hO20, hB22⟩⟩
    · refine w_exit ?_
      refine hK9 _ _ ?_
      refine w_seq fun K24 hK24 => ?_
      refine w_region ?_
      refine wl_val (g_move (v := .slice o (xs.length) (xs.length)) rfl) rfl ?_
      refine wl_val (g_assign (v := .slice o (xs.length) (xs.length)) rfl) rfl ?_
      refine wl_nil ?_
      refine hK24 _ _ ?_
      refine w_ret ?_
      have hlx : l = xs := by have h1 := ht; rw [List.take_of_length_le (by omega), List.take_of_length_le (by omega)] at h1; exact h1
      subst hlx
      exact ret1 rfl (by decide) ⟨_, _, rfl, hO.nil0, hO, toExt hB1⟩
theorem eqIntS_fn {lo hi lo2 hi2 : Nat} {a b : Option Addr} {c d : Nat} {xs ys : List Int} {w : World} (hx : Cells lo hi w a (intsC xs)) (hy : Cells lo2 hi2 w b (intsC ys)) (hhi : hi ≤ w.heap.size) (hhi2 : hi2 ≤ w.heap.size) (hl : xs.length ≤ 1099511627776) :
    Fn Try.prog 29 #[.slice a (xs.length) (c), .slice b (ys.length) (d)] w (RetV w (.bool (decide (xs = ys)))) := by
  refine fn_of_wp Try.func29 rfl (by kernel_rfl) (Nat.le_of_ble_eq_true rfl) ?_
  have hB0 := Below.refl w.heap.size w
  have hz0 := hB0.size
  refine w_seq fun K1 hK1 => ?_
  refine w_region ?_
  refine wl_val (g_assign (v := .bool (false)) rfl) rfl ?_
  refine wl_nil ?_
  refine hK1 _ _ ?_
  refine w_seq fun K2 hK2 => ?_
  refine w_seq fun K3 hK3 => ?_
  refine w_region ?_
  refine wl_val (g_move (v := .slice a (xs.length) (c)) rfl) rfl ?_
  refine wl_val (g_len' (a := a) (l := (xs.length)) (c := c) SL22 rfl) rfl ?_
  refine wl_val (g_move (v := .slice b (ys.length) (d)) rfl) rfl ?_
  refine wl_val (g_len' (a := b) (l := (ys.length)) (c := d) SL22 rfl) rfl ?_
  refine wl_val (g_neq (a := ((xs.length : Nat) : Int)) (b := ((ys.length : Nat) : Int)) rfl rfl) rfl ?_
  refine wl_nil ?_
  refine hK3 _ _ ?_
  refine w_cond_d (p := ((xs.length : Nat) : Int) ≠ ((ys.length : Nat) : Int)) rfl (fun h4 => ?_) (fun h4 => ?_)
  · refine w_seq fun K5 hK5 => ?_
    refine w_region ?_
    refine wl_val (g_assign (v := .bool (false)) rfl) rfl ?_
    refine wl_nil ?_
    refine hK5 _ _ ?_
    refine w_ret ?_
    exact ret1 rfl (by decide) ⟨congrArg Value.bool (decide_eq_false (fun h => h4 (by rw [h]))).symm, toExt hB0⟩
  · refine w_skip ?_
    refine hK2 _ _ ?_
    refine w_seq fun K6 hK6 => ?_
    refine w_seq fun K7 hK7 => ?_
    refine w_region ?_
    refine wl_val (g_assign (v := .int .i64 (0)) rfl) rfl ?_
    refine wl_nil ?_
    refine hK7 _ _ ?_
    refine w_block ?_
    refine w_for (σ := Nat) (fun k => [(0, .slice a (xs.length) (c)), (1, .slice b (ys.length) (d)), (5, .int .i64 (((k : Nat) : Int)))]) (fun k w' => (k ≤ xs.length) ∧ (xs.take k = ys.take k) ∧ (Below w.heap.size w w')) (fun k => xs.length - k) (0) ⟨rfl, rfl, rfl, trivial⟩ ?_ ?_
    · exact ⟨Nat.zero_le _, rfl, hB0⟩
    · rintro k b10 w8 ⟨hk, ht, hB1⟩
      show Wp _ _ _ _ (upds b10 [(0, .slice a (xs.length) (c)), (1, .slice b (ys.length) (d)), (5, .int .i64 (((k : Nat) : Int)))]) w8
      have hB1z := hB1.size
      have hle : xs.length = ys.length := by omega
      refine w_seq fun K11 hK11 => ?_
      refine w_seq fun K12 hK12 => ?_
      refine w_region ?_
      refine wl_val (g_move (v := .int .i64 (((k : Nat) : Int))) rfl) rfl ?_
      refine wl_val (g_move (v := .slice a (xs.length) (c)) rfl) rfl ?_
      refine wl_val (g_len' (a := a) (l := (xs.length)) (c := c) SL22 rfl) rfl ?_
      refine wl_val (g_lss (a := ((k : Nat) : Int)) (b := ((xs.length : Nat) : Int)) rfl rfl) rfl ?_
      refine wl_nil ?_
      refine hK12 _ _ ?_
      refine w_cond_d (p := ((k : Nat) : Int) < ((xs.length : Nat) : Int)) rfl (fun h13 => ?_) (fun h13 => ?_)
      · refine w_skip ?_
        refine hK11 _ _ ?_
        refine w_seq fun K14 hK14 => ?_
        refine w_block ?_
        refine w_seq fun K15 hK15 => ?_
        refine w_draw (X := Ext) [] MIX (by decide +kernel) Ext.refl (fun _ _ _ => Ext.trans) (fun w16 hE17 => ?_)
        have hs18 := hE17.size
        have hB19 := Ext.below hB1 hE17 (by omega)
        have hz20 := hB19.size
        refine ⟨.slice a (xs.length) (c), fun w21 hX22 => od_plain rfl (by have hX22z := hX22.size; exact is_ext (g_move (v := .slice a (xs.length) (c)) rfl)), ?_⟩
        refine ⟨.int .i64 (((k : Nat) : Int)), fun w23 hX24 => od_plain rfl (by have hX24z := hX24.size; exact is_ext (g_move (v := .int .i64 (((k : Nat) : Int))) rfl)), ?_⟩
        refine ⟨.pointer (some ((adr a).add (k * 1))), fun w25 hX26 => od_plain rfl (by have hX26z := hX26.size; exact is_ext (g_index (a := a) (l := (xs.length)) (c := c) (i := ((k : Nat) : Int)) SL22 rfl rfl (Cells.intSome (i := ((k : Nat) : Int)) (Cells.ext (Cells.below hx hB19 (by omega)) hX26 (by omega)) (by omega) (by omega)) (by omega) (by omega))), ?_⟩
        refine ⟨.int .i64 (xs[k]!), fun w27 hX28 => od_plain rfl (by have hX28z := hX28.size; exact is_ext (g_load1 (q := (adr a).add (k * 1)) (v := .int .i64 (xs[k]!)) ON3 rfl (Cells.int (i := ((k : Nat) : Int)) (Cells.ext (Cells.below hx hB19 (by omega)) hX28 (by omega)) (by omega) (by omega)))), ?_⟩
        refine ⟨.slice b (ys.length) (d), fun w29 hX30 => od_plain rfl (by have hX30z := hX30.size; exact is_ext (g_move (v := .slice b (ys.length) (d)) rfl)), ?_⟩
        refine ⟨.int .i64 (((k : Nat) : Int)), fun w31 hX32 => od_plain rfl (by have hX32z := hX32.size; exact is_ext (g_move (v := .int .i64 (((k : Nat) : Int))) rfl)), ?_⟩
        refine ⟨.pointer (some ((adr b).add (k * 1))), fun w33 hX34 => od_plain rfl (by have hX34z := hX34.size; exact is_ext (g_index (a := b) (l := (ys.length)) (c := d) (i := ((k : Nat) : Int)) SL22 rfl rfl (Cells.intSome (i := ((k : Nat) : Int)) (Cells.ext (Cells.below hy hB19 (by omega)) hX34 (by omega)) (by omega) (by omega)) (by omega) (by omega))), ?_⟩
        refine ⟨.int .i64 (ys[k]!), fun w35 hX36 => od_plain rfl (by have hX36z := hX36.size; exact is_ext (g_load1 (q := (adr b).add (k * 1)) (v := .int .i64 (ys[k]!)) ON3 rfl (Cells.int (i := ((k : Nat) : Int)) (Cells.ext (Cells.below hy hB19 (by omega)) hX36 (by omega)) (by omega) (by omega)))), ?_⟩
        refine ⟨.bool (decide (xs[k]! ≠ ys[k]!)), fun w37 hX38 => od_plain rfl (by have hX38z := hX38.size; exact is_ext (g_neq (a := xs[k]!) (b := ys[k]!) rfl rfl)), ?_⟩
        intro w39 hX40
        have hs41 := hX40.size
        have hB42 := Ext.below hB19 hX40 (by omega)
        have hz43 := hB42.size
        refine hK15 _ _ ?_
        refine w_cond_d (p := xs[k]! ≠ ys[k]!) rfl (fun h44 => ?_) (fun h44 => ?_)
        · refine w_seq fun K45 hK45 => ?_
          refine w_region ?_
          refine wl_val (g_assign (v := .bool (false)) rfl) rfl ?_
          refine wl_nil ?_
          refine hK45 _ _ ?_
          refine w_ret ?_
          exact ret1 rfl (by decide) ⟨congrArg Value.bool (decide_eq_false (fun h => h44 (by rw [h]))).symm, toExt hB42⟩
        · refine w_skip ?_
          refine hK14 _ _ ?_
          refine w_region ?_
          refine wl_val (g_move (v := .int .i64 (((k : Nat) : Int))) rfl) rfl ?_
          refine wl_val (g_add (a := ((k : Nat) : Int)) (b := 1) rfl rfl ⟨by omega, by omega⟩) rfl ?_
          refine wl_val (g_assign (v := .int .i64 ((((k : Nat) : Int) + 1))) rfl) rfl ?_
          refine wl_nil ?_
          exact ⟨(k + 1), (by first | omega | (dsimp only; omega)), ⟨rfl, rfl, rfl, trivial⟩, ⟨by omega, by rw [take_snoc! xs k (by omega), take_snoc! ys k (by omega), ht, (Classical.not_not.1 h44)], hB42⟩⟩
      · refine w_exit ?_
        refine hK6 _ _ ?_
        refine w_seq fun K46 hK46 => ?_
        refine w_region ?_
        refine wl_val (g_assign (v := .bool (true)) rfl) rfl ?_
        refine wl_nil ?_
        refine hK46 _ _ ?_
        refine w_ret ?_
        exact ret1 rfl (by decide) ⟨congrArg Value.bool (decide_eq_true (all_eq hle ht (by omega))).symm, toExt hB1⟩
theorem changes_fn {l1 l2 l3 l4 u1 u2 u3 u4 : Nat} {a b c d : Option Addr} {ca cb cc cd : Nat} {xs cs ys ds : List Int} {w : World} (hx : Ints l1 u1 w a xs) (hc : Ints l2 u2 w b cs) (hy : Ints l3 u3 w c ys) (hd : Ints l4 u4 w d ds) (hu1 : u1 ≤ w.heap.size) (hu2 : u2 ≤ w.heap.size) (hu3 : u3 ≤ w.heap.size) (hu4 : u4 ≤ w.heap.size) (hl1 : xs.length ≤ 1048576) (hl2 : cs.length ≤ 1048576) (hl3 : ys.length ≤ 1048576) (hl4 : ds.length ≤ 1048576) (hlc : xs.length = cs.length) (hld : ys.length = ds.length) :
    Fn Try.prog 85 #[.slice a (xs.length) (ca), .slice b (cs.length) (cb), .slice c (ys.length) (cc), .slice d (ds.length) (cd)] w (RetV w (.int .i64 ((chN xs cs ys ds xs.length : Nat) : Int))) := by
  refine fn_of_wp Try.func85 rfl (by kernel_rfl) (Nat.le_of_ble_eq_true rfl) ?_
  have hB0 := Below.refl w.heap.size w
  have hz0 := hB0.size
  refine w_seq fun K1 hK1 => ?_
  refine w_region ?_
  refine wl_val (g_assign (v := .int .i64 (0)) rfl) rfl ?_
  refine wl_nil ?_
  refine hK1 _ _ ?_
  refine w_seq fun K2 hK2 => ?_
  refine w_region ?_
  refine wl_val (g_assign (v := .int .i64 (0)) rfl) rfl ?_
  refine wl_nil ?_
  refine hK2 _ _ ?_
  refine w_seq fun K3 hK3 => ?_
  refine w_seq fun K4 hK4 => ?_
  refine w_region ?_
  refine wl_val (g_move (v := .slice a (xs.length) (ca)) rfl) rfl ?_
  refine wl_val (g_len' (a := a) (l := (xs.length)) (c := ca) SL22 rfl) rfl ?_
  refine wl_val (g_move (v := .int .i64 (0)) rfl) rfl ?_
  refine wl_nil ?_
  refine hK4 _ _ ?_
  refine w_block ?_
  refine w_for (σ := Nat) (fun k => [(0, .slice a (xs.length) (ca)), (1, .slice b (cs.length) (cb)), (2, .slice c (ys.length) (cc)), (3, .slice d (ds.length) (cd)), (9, .int .i64 (((chN xs cs ys ds k : Nat) : Int))), (14, .slice a (xs.length) (ca)), (15, .int .i64 (((xs.length : Nat) : Int))), (16, .int .i64 (((k : Nat) : Int)))]) (fun k w' => (k ≤ xs.length) ∧ (Below w.heap.size w w')) (fun k => xs.length - k) (0) ⟨rfl, rfl, rfl, rfl, rfl, rfl, rfl, rfl, trivial⟩ ?_ ?_
  · exact ⟨Nat.zero_le _, hB0⟩
  · rintro k b7 w5 ⟨hk, hB1⟩
    show Wp _ _ _ _ (upds b7 [(0, .slice a (xs.length) (ca)), (1, .slice b (cs.length) (cb)), (2, .slice c (ys.length) (cc)), (3, .slice d (ds.length) (cd)), (9, .int .i64 (((chN xs cs ys ds k : Nat) : Int))), (14, .slice a (xs.length) (ca)), (15, .int .i64 (((xs.length : Nat) : Int))), (16, .int .i64 (((k : Nat) : Int)))]) w5
    have hB1z := hB1.size
    have hnk := chN_le (xs := xs) (cs := cs) (ds := ds) hl3 k
    refine w_seq fun K8 hK8 => ?_
    refine w_region ?_
    refine wl_val (g_lss (a := ((k : Nat) : Int)) (b := ((xs.length : Nat) : Int)) rfl rfl) rfl ?_
    refine wl_nil ?_
    refine hK8 _ _ ?_
    refine w_seq fun K9 hK9 => ?_
    refine w_cond_d (p := ((k : Nat) : Int) < ((xs.length : Nat) : Int)) rfl (fun h10 => ?_) (fun h10 => ?_)
    · refine w_skip ?_
      refine hK9 _ _ ?_
      refine w_seq fun K11 hK11 => ?_
      refine w_block ?_
      refine w_seq fun K12 hK12 => ?_
      refine w_region ?_
      refine wl_val (g_move (v := .int .i64 (((k : Nat) : Int))) rfl) rfl ?_
      refine wl_val (g_index (a := a) (l := (xs.length)) (c := ca) (i := ((k : Nat) : Int)) SL22 rfl rfl (Cells.intSome (i := ((k : Nat) : Int)) (Cells.below hx hB1 (by omega)) (by omega) (by omega)) (by omega) (by omega)) rfl ?_
      refine wl_val (g_load1 (q := (adr a).add (k * 1)) (v := .int .i64 (xs[k]!)) ON3 rfl (Cells.int (i := ((k : Nat) : Int)) (Cells.below hx hB1 (by omega)) (by omega) (by omega))) rfl ?_
      refine wl_val (g_assign (v := .int .i64 (((k : Nat) : Int))) rfl) rfl ?_
      refine wl_val (g_assign (v := .int .i64 (xs[k]!)) rfl) rfl ?_
      refine wl_nil ?_
      refine hK12 _ _ ?_
      refine w_seq fun K13 hK13 => ?_
      refine w_region ?_
      refine wl_val (g_move (v := .slice c (ys.length) (cc)) rfl) rfl ?_
      refine wl_val (g_len' (a := c) (l := (ys.length)) (c := cc) SL22 rfl) rfl ?_
      refine wl_val (g_move (v := .int .i64 (0)) rfl) rfl ?_
      refine wl_nil ?_
      refine hK13 _ _ ?_
      refine w_block ?_
      refine w_for (σ := Nat) (fun i => [(0, .slice a (xs.length) (ca)), (1, .slice b (cs.length) (cb)), (2, .slice c (ys.length) (cc)), (3, .slice d (ds.length) (cd)), (9, .int .i64 (((chN xs cs ys ds k + chR xs cs ys ds k i : Nat) : Int))), (10, .int .i64 (((k : Nat) : Int))), (11, .int .i64 (xs[k]!)), (14, .slice a (xs.length) (ca)), (15, .int .i64 (((xs.length : Nat) : Int))), (16, .int .i64 (((k : Nat) : Int))), (21, .slice c (ys.length) (cc)), (22, .int .i64 (((ys.length : Nat) : Int))), (23, .int .i64 (((i : Nat) : Int)))]) (fun i w' => (i ≤ ys.length) ∧ (Below w.heap.size w w')) (fun i => ys.length - i) (0) ⟨rfl, rfl, rfl, rfl, rfl, rfl, rfl, rfl, rfl, rfl, rfl, rfl, rfl, trivial⟩ ?_ ?_
      · exact ⟨Nat.zero_le _, hB1⟩
      · rintro i b16 w14 ⟨hi, hB2⟩
        show Wp _ _ _ _ (upds b16 [(0, .slice a (xs.length) (ca)), (1, .slice b (cs.length) (cb)), (2, .slice c (ys.length) (cc)), (3, .slice d (ds.length) (cd)), (9, .int .i64 (((chN xs cs ys ds k + chR xs cs ys ds k i : Nat) : Int))), (10, .int .i64 (((k : Nat) : Int))), (11, .int .i64 (xs[k]!)), (14, .slice a (xs.length) (ca)), (15, .int .i64 (((xs.length : Nat) : Int))), (16, .int .i64 (((k : Nat) : Int))), (21, .slice c (ys.length) (cc)), (22, .int .i64 (((ys.length : Nat) : Int))), (23, .int .i64 (((i : Nat) : Int)))]) w14
        have hB2z := hB2.size
        have hrk := chR_le (xs := xs) (cs := cs) (ys := ys) (ds := ds) k i
        refine w_seq fun K17 hK17 => ?_
        refine w_region ?_
        refine wl_val (g_lss (a := ((i : Nat) : Int)) (b := ((ys.length : Nat) : Int)) rfl rfl) rfl ?_
        refine wl_nil ?_
        refine hK17 _ _ ?_
        refine w_seq fun K18 hK18 => ?_
        refine w_cond_d (p := ((i : Nat) : Int) < ((ys.length : Nat) : Int)) rfl (fun h19 => ?_) (fun h19 => ?_)
        · refine w_skip ?_
          refine hK18 _ _ ?_
          refine w_seq fun K20 hK20 => ?_
          refine w_block ?_
          refine w_seq fun K21 hK21 => ?_
          refine w_region ?_
          refine wl_val (g_move (v := .int .i64 (((i : Nat) : Int))) rfl) rfl ?_
          refine wl_val (g_index (a := c) (l := (ys.length)) (c := cc) (i := ((i : Nat) : Int)) SL22 rfl rfl (Cells.intSome (i := ((i : Nat) : Int)) (Cells.below hy hB2 (by omega)) (by omega) (by omega)) (by omega) (by omega)) rfl ?_
          refine wl_val (g_load1 (q := (adr c).add (i * 1)) (v := .int .i64 (ys[i]!)) ON3 rfl (Cells.int (i := ((i : Nat) : Int)) (Cells.below hy hB2 (by omega)) (by omega) (by omega))) rfl ?_
          refine wl_val (g_assign (v := .int .i64 (((i : Nat) : Int))) rfl) rfl ?_
          refine wl_val (g_assign (v := .int .i64 (ys[i]!)) rfl) rfl ?_
          refine wl_nil ?_
          refine hK21 _ _ ?_
          refine w_seq fun K22 hK22 => ?_
          refine w_draw (X := Ext) [] MIX (by decide +kernel) Ext.refl (fun _ _ _ => Ext.trans) (fun w23 hE24 => ?_)
          have hs25 := hE24.size
          have hB26 := Ext.below hB2 hE24 (by omega)
          have hz27 := hB26.size
          refine ⟨.int .i64 (xs[k]!), fun w28 hX29 => od_plain rfl (by have hX29z := hX29.size; exact is_ext (g_move (v := .int .i64 (xs[k]!)) rfl)), ?_⟩
          refine ⟨.int .i64 (ys[i]!), fun w30 hX31 => od_plain rfl (by have hX31z := hX31.size; exact is_ext (g_move (v := .int .i64 (ys[i]!)) rfl)), ?_⟩
          refine ⟨.bool (decide (xs[k]! = ys[i]!)), fun w32 hX33 => od_plain rfl (by have hX33z := hX33.size; exact is_ext (g_eql (a := xs[k]!) (b := ys[i]!) rfl rfl)), ?_⟩
          refine ⟨.bool (decide (xs[k]! = ys[i]!)), fun w34 hX35 => od_plain rfl (by have hX35z := hX35.size; exact is_ext (g_move (v := .bool (decide (xs[k]! = ys[i]!))) rfl)), ?_⟩
          refine ⟨if (decide (xs[k]! = ys[i]!)) = true then .slice b (cs.length) (cb) else undef, fun w36 hX37 => od_guard (val := .slice b (cs.length) (cb)) (b := ((decide (xs[k]! = ys[i]!)) == true)) (gv_some rfl rfl rfl) beq_iff_eq (fun hg38 => ?_), ?_⟩
          · have hg38p := of_decide_eq_true hg38
            have hX37z := hX37.size
            exact is_ext (g_move (v := .slice b (cs.length) (cb)) rfl)
          refine ⟨if (decide (xs[k]! = ys[i]!)) = true then .int .i64 (((k : Nat) : Int)) else undef, fun w39 hX40 => od_guard (val := .int .i64 (((k : Nat) : Int))) (b := ((decide (xs[k]! = ys[i]!)) == true)) (gv_some rfl rfl rfl) beq_iff_eq (fun hg41 => ?_), ?_⟩
          · have hg41p := of_decide_eq_true hg41
            have hX40z := hX40.size
            exact is_ext (g_move (v := .int .i64 (((k : Nat) : Int))) rfl)
          refine ⟨if (decide (xs[k]! = ys[i]!)) = true then .pointer (some ((adr b).add (k * 1))) else undef, fun w42 hX43 => od_guard (val := .pointer (some ((adr b).add (k * 1)))) (b := ((decide (xs[k]! = ys[i]!)) == true)) (gv_some rfl rfl rfl) beq_iff_eq (fun hg44 => ?_), ?_⟩
          · have hg44p := of_decide_eq_true hg44
            have hX43z := hX43.size
            exact is_ext (g_index (a := b) (l := (cs.length)) (c := cb) (i := ((k : Nat) : Int)) SL22 (if_pos (e := undef) hg44) (if_pos (e := undef) hg44) (Cells.intSome (i := ((k : Nat) : Int)) (Cells.ext (Cells.below hc hB26 (by omega)) hX43 (by omega)) (by omega) (by omega)) (by omega) (by omega))
          refine ⟨if (decide (xs[k]! = ys[i]!)) = true then .int .i64 (cs[k]!) else undef, fun w45 hX46 => od_guard (val := .int .i64 (cs[k]!)) (b := ((decide (xs[k]! = ys[i]!)) == true)) (gv_some rfl rfl rfl) beq_iff_eq (fun hg47 => ?_), ?_⟩
          · have hg47p := of_decide_eq_true hg47
            have hX46z := hX46.size
            exact is_ext (g_load1 (q := (adr b).add (k * 1)) (v := .int .i64 (cs[k]!)) ON3 (if_pos (e := undef) hg47) (Cells.int (i := ((k : Nat) : Int)) (Cells.ext (Cells.below hc hB26 (by omega)) hX46 (by omega)) (by omega) (by omega)))
          refine ⟨if (decide (xs[k]! = ys[i]!)) = true then .slice d (ds.length) (cd) else undef, fun w48 hX49 => od_guard (val := .slice d (ds.length) (cd)) (b := ((decide (xs[k]! = ys[i]!)) == true)) (gv_some rfl rfl rfl) beq_iff_eq (fun hg50 => ?_), ?_⟩
          · have hg50p := of_decide_eq_true hg50
            have hX49z := hX49.size
            exact is_ext (g_move (v := .slice d (ds.length) (cd)) rfl)
          refine ⟨if (decide (xs[k]! = ys[i]!)) = true then .int .i64 (((i : Nat) : Int)) else undef, fun w51 hX52 => od_guard (val := .int .i64 (((i : Nat) : Int))) (b := ((decide (xs[k]! = ys[i]!)) == true)) (gv_some rfl rfl rfl) beq_iff_eq (fun hg53 => ?_), ?_⟩
          · have hg53p := of_decide_eq_true hg53
            have hX52z := hX52.size
            exact is_ext (g_move (v := .int .i64 (((i : Nat) : Int))) rfl)
          refine ⟨if (decide (xs[k]! = ys[i]!)) = true then .pointer (some ((adr d).add (i * 1))) else undef, fun w54 hX55 => od_guard (val := .pointer (some ((adr d).add (i * 1)))) (b := ((decide (xs[k]! = ys[i]!)) == true)) (gv_some rfl rfl rfl) beq_iff_eq (fun hg56 => ?_), ?_⟩
          · have hg56p := of_decide_eq_true hg56
            have hX55z := hX55.size
            exact is_ext (g_index (a := d) (l := (ds.length)) (c := cd) (i := ((i : Nat) : Int)) SL22 (if_pos (e := undef) hg56) (if_pos (e := undef) hg56) (Cells.intSome (i := ((i : Nat) : Int)) (Cells.ext (Cells.below hd hB26 (by omega)) hX55 (by omega)) (by omega) (by omega)) (by omega) (by omega))
          refine ⟨if (decide (xs[k]! = ys[i]!)) = true then .int .i64 (ds[i]!) else undef, fun w57 hX58 => od_guard (val := .int .i64 (ds[i]!)) (b := ((decide (xs[k]! = ys[i]!)) == true)) (gv_some rfl rfl rfl) beq_iff_eq (fun hg59 => ?_), ?_⟩
          · have hg59p := of_decide_eq_true hg59
            have hX58z := hX58.size
            exact is_ext (g_load1 (q := (adr d).add (i * 1)) (v := .int .i64 (ds[i]!)) ON3 (if_pos (e := undef) hg59) (Cells.int (i := ((i : Nat) : Int)) (Cells.ext (Cells.below hd hB26 (by omega)) hX58 (by omega)) (by omega) (by omega)))
          refine ⟨if (decide (xs[k]! = ys[i]!)) = true then .bool (decide (cs[k]! ≠ ds[i]!)) else undef, fun w60 hX61 => od_guard (val := .bool (decide (cs[k]! ≠ ds[i]!))) (b := ((decide (xs[k]! = ys[i]!)) == true)) (gv_some rfl rfl rfl) beq_iff_eq (fun hg62 => ?_), ?_⟩
          · have hg62p := of_decide_eq_true hg62
            have hX61z := hX61.size
            exact is_ext (g_neq (a := cs[k]!) (b := ds[i]!) (if_pos (e := undef) hg62) (if_pos (e := undef) hg62))
          refine ⟨.bool ((decide (xs[k]! = ys[i]!) && decide (cs[k]! ≠ ds[i]!))), fun w63 hX64 => od_plain rfl (by have hX64z := hX64.size; exact is_ext (g_pick_and (b := (decide (xs[k]! = ys[i]!))) (q := (decide (cs[k]! ≠ ds[i]!))) rfl rfl)), ?_⟩
          intro w65 hX66
          have hs67 := hX66.size
          have hB68 := Ext.below hB26 hX66 (by omega)
          have hz69 := hB68.size
          refine hK22 _ _ ?_
          refine w_cond (b := ((decide (xs[k]! = ys[i]!) && decide (cs[k]! ≠ ds[i]!)))) rfl (fun h70 => ?_) (fun h70 => ?_)
          · replace h70 := (fun h => And.imp of_decide_eq_true of_decide_eq_true (bt_and h)) h70
            refine w_region ?_
            refine wl_val (g_move (v := .int .i64 (((chN xs cs ys ds k + chR xs cs ys ds k i : Nat) : Int))) rfl) rfl ?_
            refine wl_val (g_add (a := ((chN xs cs ys ds k + chR xs cs ys ds k i : Nat) : Int)) (b := 1) rfl rfl ⟨by omega, by omega⟩) rfl ?_
            refine wl_val (g_assign (v := .int .i64 ((((chN xs cs ys ds k + chR xs cs ys ds k i : Nat) : Int) + 1))) rfl) rfl ?_
            refine wl_nil ?_
            refine hK20 _ _ ?_
            refine w_region ?_
            refine wl_val (g_add (a := ((i : Nat) : Int)) (b := 1) rfl rfl ⟨by omega, by omega⟩) rfl ?_
            refine wl_val (g_move (v := .int .i64 ((((i : Nat) : Int) + 1))) rfl) rfl ?_
            refine wl_nil ?_
            exact ⟨(i + 1), (by first | omega | (dsimp only; omega)), ⟨rfl, rfl, rfl, rfl, congrArg (Value.int .i64) (ch_yes h70), rfl, rfl, rfl, rfl, rfl, rfl, rfl, rfl, trivial⟩, ⟨by omega, hB68⟩⟩
          · replace h70 := (fun h => Or.imp of_decide_eq_false of_decide_eq_false (bf_and h)) h70
            refine w_skip ?_
            refine hK20 _ _ ?_
            refine w_region ?_
            refine wl_val (g_add (a := ((i : Nat) : Int)) (b := 1) rfl rfl ⟨by omega, by omega⟩) rfl ?_
            refine wl_val (g_move (v := .int .i64 ((((i : Nat) : Int) + 1))) rfl) rfl ?_
            refine wl_nil ?_
            exact ⟨(i + 1), (by first | omega | (dsimp only; omega)), ⟨rfl, rfl, rfl, rfl, congrArg (Value.int .i64) (ch_no h70), rfl, rfl, rfl, rfl, rfl, rfl, rfl, rfl, trivial⟩, ⟨by omega, hB68⟩⟩
        · refine w_exit ?_
          obtain rfl : i = ys.length := by omega
          refine hK11 _ _ ?_
          refine w_region ?_
          refine wl_val (g_add (a := ((k : Nat) : Int)) (b := 1) rfl rfl ⟨by omega, by omega⟩) rfl ?_
          refine wl_val (g_move (v := .int .i64 ((((k : Nat) : Int) + 1))) rfl) rfl ?_
          refine wl_nil ?_
          exact ⟨(k + 1), (by first | omega | (dsimp only; omega)), ⟨rfl, rfl, rfl, rfl, rfl, rfl, rfl, rfl, trivial⟩, ⟨by omega, hB2⟩⟩
    · refine w_exit ?_
      refine hK3 _ _ ?_
      refine w_seq fun K71 hK71 => ?_
      refine w_region ?_
      refine wl_val (g_move (v := .int .i64 (((chN xs cs ys ds k : Nat) : Int))) rfl) rfl ?_
      refine wl_val (g_assign (v := .int .i64 (((chN xs cs ys ds k : Nat) : Int))) rfl) rfl ?_
      refine wl_nil ?_
      refine hK71 _ _ ?_
      refine w_ret ?_
      obtain rfl : k = xs.length := by omega
      exact ret1 rfl (by decide) ⟨rfl, toExt hB1⟩
theorem implChanges_fn {l1 l2 l3 l4 u1 u2 u3 u4 : Nat} {a b c d : Option Addr} {ca cb cc cd : Nat} {xs cs ys ds : List Int} {w : World} (hx : Ints l1 u1 w a xs) (hc : Ints l2 u2 w b cs) (hy : Ints l3 u3 w c ys) (hd : Ints l4 u4 w d ds) (hu1 : u1 ≤ w.heap.size) (hu2 : u2 ≤ w.heap.size) (hu3 : u3 ≤ w.heap.size) (hu4 : u4 ≤ w.heap.size) (hl1 : xs.length ≤ 1048576) (hl2 : cs.length ≤ 1048576) (hl3 : ys.length ≤ 1048576) (hl4 : ds.length ≤ 1048576) :
    Fn Try.prog 28 #[.slice a (xs.length) (ca), .slice b (cs.length) (cb), .slice c (ys.length) (cc), .slice d (ds.length) (cd)] w (RetV w (.int .i64 (changesB xs cs ys ds))) := by
  refine fn_of_wp Try.func28 rfl (by kernel_rfl) (Nat.le_of_ble_eq_true rfl) ?_
  have hB0 := Below.refl w.heap.size w
  have hz0 := hB0.size
  refine w_seq fun K1 hK1 => ?_
  refine w_region ?_
  refine wl_val (g_assign (v := .int .i64 (0)) rfl) rfl ?_
  refine wl_nil ?_
  refine hK1 _ _ ?_
  refine w_seq fun K2 hK2 => ?_
  refine w_seq fun K3 hK3 => ?_
  refine w_region ?_
  refine wl_val (g_move (v := .slice a (xs.length) (ca)) rfl) rfl ?_
  refine wl_val (g_len' (a := a) (l := (xs.length)) (c := ca) SL22 rfl) rfl ?_
  refine wl_val (g_move (v := .slice b (cs.length) (cb)) rfl) rfl ?_
  refine wl_val (g_len' (a := b) (l := (cs.length)) (c := cb) SL22 rfl) rfl ?_
  refine wl_val (g_neq (a := ((xs.length : Nat) : Int)) (b := ((cs.length : Nat) : Int)) rfl rfl) rfl ?_
  refine wl_val (g_move (v := .bool (decide (((xs.length : Nat) : Int) ≠ ((cs.length : Nat) : Int)))) rfl) rfl ?_
  refine wl_guard (c := (decide (((xs.length : Nat) : Int) ≠ ((cs.length : Nat) : Int))) = false) (val := .slice c (ys.length) (cc)) (b := ((decide (((xs.length : Nat) : Int) ≠ ((cs.length : Nat) : Int))) == false)) (gv_some rfl rfl rfl) beq_iff_eq (fun hg4 => ?_) ?_
  · have hg4p := of_decide_eq_false hg4
    exact g_move (v := .slice c (ys.length) (cc)) rfl
  refine wl_guard (c := (decide (((xs.length : Nat) : Int) ≠ ((cs.length : Nat) : Int))) = false) (val := .int .i64 (((ys.length : Nat) : Int))) (b := ((decide (((xs.length : Nat) : Int) ≠ ((cs.length : Nat) : Int))) == false)) (gv_some rfl rfl rfl) beq_iff_eq (fun hg5 => ?_) ?_
  · have hg5p := of_decide_eq_false hg5
    exact g_len' (a := c) (l := (ys.length)) (c := cc) SL22 (if_pos (e := undef) hg5)
  refine wl_guard (c := (decide (((xs.length : Nat) : Int) ≠ ((cs.length : Nat) : Int))) = false) (val := .slice d (ds.length) (cd)) (b := ((decide (((xs.length : Nat) : Int) ≠ ((cs.length : Nat) : Int))) == false)) (gv_some rfl rfl rfl) beq_iff_eq (fun hg6 => ?_) ?_
  · have hg6p := of_decide_eq_false hg6
    exact g_move (v := .slice d (ds.length) (cd)) rfl
  refine wl_guard (c := (decide (((xs.length : Nat) : Int) ≠ ((cs.length : Nat) : Int))) = false) (val := .int .i64 (((ds.length : Nat) : Int))) (b := ((decide (((xs.length : Nat) : Int) ≠ ((cs.length : Nat) : Int))) == false)) (gv_some rfl rfl rfl) beq_iff_eq (fun hg7 => ?_) ?_
  · have hg7p := of_decide_eq_false hg7
    exact g_len' (a := d) (l := (ds.length)) (c := cd) SL22 (if_pos (e := undef) hg7)
  refine wl_guard (c := (decide (((xs.length : Nat) : Int) ≠ ((cs.length : Nat) : Int))) = false) (val := .bool (decide (((ys.length : Nat) : Int) ≠ ((ds.length : Nat) : Int)))) (b := ((decide (((xs.length : Nat) : Int) ≠ ((cs.length : Nat) : Int))) == false)) (gv_some rfl rfl rfl) beq_iff_eq (fun hg8 => ?_) ?_
  · have hg8p := of_decide_eq_false hg8
    exact g_neq (a := ((ys.length : Nat) : Int)) (b := ((ds.length : Nat) : Int)) (if_pos (e := undef) hg8) (if_pos (e := undef) hg8)
  refine wl_val (g_pick_or (b := (decide (((xs.length : Nat) : Int) ≠ ((cs.length : Nat) : Int)))) (q := (decide (((ys.length : Nat) : Int) ≠ ((ds.length : Nat) : Int)))) rfl rfl) rfl ?_
  refine wl_nil ?_
  refine hK3 _ _ ?_
  refine w_cond (b := ((decide (((xs.length : Nat) : Int) ≠ ((cs.length : Nat) : Int)) || decide (((ys.length : Nat) : Int) ≠ ((ds.length : Nat) : Int))))) rfl (fun h9 => ?_) (fun h9 => ?_)
  · replace h9 := (fun h => Or.imp of_decide_eq_true of_decide_eq_true (bt_or h)) h9
    refine w_seq fun K10 hK10 => ?_
    refine w_region ?_
    refine wl_val (g_assign (v := .int .i64 ((-1))) rfl) rfl ?_
    refine wl_nil ?_
    refine hK10 _ _ ?_
    refine w_ret ?_
    exact ret1 rfl (by decide) ⟨congrArg (Value.int .i64) (ch_bad (by omega)).symm, toExt hB0⟩
  · replace h9 := (fun h => And.imp of_decide_eq_false of_decide_eq_false (bf_or h)) h9
    have hlc : xs.length = cs.length := by omega
    have hld : ys.length = ds.length := by omega
    refine w_skip ?_
    refine hK2 _ _ ?_
    refine w_seq fun K11 hK11 => ?_
    refine w_region ?_
    refine wl_val (g_move (v := .slice a (xs.length) (ca)) rfl) rfl ?_
    refine wl_val (g_move (v := .slice b (cs.length) (cb)) rfl) rfl ?_
    refine wl_val (g_move (v := .slice c (ys.length) (cc)) rfl) rfl ?_
    refine wl_val (g_move (v := .slice d (ds.length) (cd)) rfl) rfl ?_
    refine wl_step rfl (g_call (vs := #[.slice a (xs.length) (ca), .slice b (cs.length) (cb), .slice c (ys.length) (cc), .slice d (ds.length) (cd)]) CF85 (args4 rfl rfl rfl rfl) (changes_fn (Cells.below hx hB0 (by omega)) (Cells.below hc hB0 (by omega)) (Cells.below hy hB0 (by omega)) (Cells.below hd hB0 (by omega)) (by omega) (by omega) (by omega) (by omega) (by omega) (by omega) (by omega) (by omega) (by omega) (by omega))) ?_
    rintro _ w12 ⟨rfl, hE13⟩
    have hs14 := hE13.size
    have hB15 := Ext.below hB0 hE13 (by omega)
    have hz16 := hB15.size
    refine wl_val (g_assign (v := .int .i64 (((chN xs cs ys ds xs.length : Nat) : Int))) rfl) rfl ?_
    refine wl_nil ?_
    refine hK11 _ _ ?_
    refine w_ret ?_
    exact ret1 rfl (by decide) ⟨congrArg (Value.int .i64) (ch_good ⟨hlc, hld⟩).symm, toExt hB15⟩
theorem specChanges_fn {l1 l2 l3 l4 u1 u2 u3 u4 : Nat} {a b c d : Option Addr} {ca cb cc cd : Nat} {xs cs ys ds : List Int} {w : World} (hx : Ints l1 u1 w a xs) (hc : Ints l2 u2 w b cs) (hy : Ints l3 u3 w c ys) (hd : Ints l4 u4 w d ds) (hu1 : u1 ≤ w.heap.size) (hu2 : u2 ≤ w.heap.size) (hu3 : u3 ≤ w.heap.size) (hu4 : u4 ≤ w.heap.size) (hl1 : xs.length ≤ 1048576) (hl2 : cs.length ≤ 1048576) (hl3 : ys.length ≤ 1048576) (hl4 : ds.length ≤ 1048576) :
    Fn Try.prog 26 #[.slice a (xs.length) (ca), .slice b (cs.length) (cb), .slice c (ys.length) (cc), .slice d (ds.length) (cd)] w (RetV w (.int .i64 (changesB xs cs ys ds))) := by
  refine fn_of_wp Try.func26 rfl (by kernel_rfl) (Nat.le_of_ble_eq_true rfl) ?_
  have hB0 := Below.refl w.heap.size w
  have hz0 := hB0.size
  refine w_seq fun K1 hK1 => ?_
  refine w_region ?_
  refine wl_val (g_assign (v := .int .i64 (0)) rfl) rfl ?_
  refine wl_nil ?_
  refine hK1 _ _ ?_
  refine w_seq fun K2 hK2 => ?_
  refine w_seq fun K3 hK3 => ?_
  refine w_region ?_
  refine wl_val (g_move (v := .slice a (xs.length) (ca)) rfl) rfl ?_
  refine wl_val (g_len' (a := a) (l := (xs.length)) (c := ca) SL22 rfl) rfl ?_
  refine wl_val (g_move (v := .slice b (cs.length) (cb)) rfl) rfl ?_
  refine wl_val (g_len' (a := b) (l := (cs.length)) (c := cb) SL22 rfl) rfl ?_
  refine wl_val (g_neq (a := ((xs.length : Nat) : Int)) (b := ((cs.length : Nat) : Int)) rfl rfl) rfl ?_
  refine wl_val (g_move (v := .bool (decide (((xs.length : Nat) : Int) ≠ ((cs.length : Nat) : Int)))) rfl) rfl ?_
  refine wl_guard (c := (decide (((xs.length : Nat) : Int) ≠ ((cs.length : Nat) : Int))) = false) (val := .slice c (ys.length) (cc)) (b := ((decide (((xs.length : Nat) : Int) ≠ ((cs.length : Nat) : Int))) == false)) (gv_some rfl rfl rfl) beq_iff_eq (fun hg4 => ?_) ?_
  · have hg4p := of_decide_eq_false hg4
    exact g_move (v := .slice c (ys.length) (cc)) rfl
  refine wl_guard (c := (decide (((xs.length : Nat) : Int) ≠ ((cs.length : Nat) : Int))) = false) (val := .int .i64 (((ys.length : Nat) : Int))) (b := ((decide (((xs.length : Nat) : Int) ≠ ((cs.length : Nat) : Int))) == false)) (gv_some rfl rfl rfl) beq_iff_eq (fun hg5 => ?_) ?_
  · have hg5p := of_decide_eq_false hg5
    exact g_len' (a := c) (l := (ys.length)) (c := cc) SL22 (if_pos (e := undef) hg5)
  refine wl_guard (c := (decide (((xs.length : Nat) : Int) ≠ ((cs.length : Nat) : Int))) = false) (val := .slice d (ds.length) (cd)) (b := ((decide (((xs.length : Nat) : Int) ≠ ((cs.length : Nat) : Int))) == false)) (gv_some rfl rfl rfl) beq_iff_eq (fun hg6 => ?_) ?_
  · have hg6p := of_decide_eq_false hg6
    exact g_move (v := .slice d (ds.length) (cd)) rfl
  refine wl_guard (c := (decide (((xs.length : Nat) : Int) ≠ ((cs.length : Nat) : Int))) = false) (val := .int .i64 (((ds.length : Nat) : Int))) (b := ((decide (((xs.length : Nat) : Int) ≠ ((cs.length : Nat) : Int))) == false)) (gv_some rfl rfl rfl) beq_iff_eq (fun hg7 => ?_) ?_
  · have hg7p := of_decide_eq_false hg7
    exact g_len' (a := d) (l := (ds.length)) (c := cd) SL22 (if_pos (e := undef) hg7)
  refine wl_guard (c := (decide (((xs.length : Nat) : Int) ≠ ((cs.length : Nat) : Int))) = false) (val := .bool (decide (((ys.length : Nat) : Int) ≠ ((ds.length : Nat) : Int)))) (b := ((decide (((xs.length : Nat) : Int) ≠ ((cs.length : Nat) : Int))) == false)) (gv_some rfl rfl rfl) beq_iff_eq (fun hg8 => ?_) ?_
  · have hg8p := of_decide_eq_false hg8
    exact g_neq (a := ((ys.length : Nat) : Int)) (b := ((ds.length : Nat) : Int)) (if_pos (e := undef) hg8) (if_pos (e := undef) hg8)
  refine wl_val (g_pick_or (b := (decide (((xs.length : Nat) : Int) ≠ ((cs.length : Nat) : Int)))) (q := (decide (((ys.length : Nat) : Int) ≠ ((ds.length : Nat) : Int)))) rfl rfl) rfl ?_
  refine wl_nil ?_
  refine hK3 _ _ ?_
  refine w_cond (b := ((decide (((xs.length : Nat) : Int) ≠ ((cs.length : Nat) : Int)) || decide (((ys.length : Nat) : Int) ≠ ((ds.length : Nat) : Int))))) rfl (fun h9 => ?_) (fun h9 => ?_)
  · replace h9 := (fun h => Or.imp of_decide_eq_true of_decide_eq_true (bt_or h)) h9
    refine w_seq fun K10 hK10 => ?_
    refine w_region ?_
    refine wl_val (g_assign (v := .int .i64 ((-1))) rfl) rfl ?_
    refine wl_nil ?_
    refine hK10 _ _ ?_
    refine w_ret ?_
    exact ret1 rfl (by decide) ⟨congrArg (Value.int .i64) (ch_bad (by omega)).symm, toExt hB0⟩
  · replace h9 := (fun h => And.imp of_decide_eq_false of_decide_eq_false (bf_or h)) h9
    have hlc : xs.length = cs.length := by omega
    have hld : ys.length = ds.length := by omega
    refine w_skip ?_
    refine hK2 _ _ ?_
    refine w_seq fun K11 hK11 => ?_
    refine w_region ?_
    refine wl_val (g_assign (v := .int .i64 (0)) rfl) rfl ?_
    refine wl_nil ?_
    refine hK11 _ _ ?_
    refine w_seq fun K12 hK12 => ?_
    refine w_seq fun K13 hK13 => ?_
    refine w_region ?_
    refine wl_val (g_assign (v := .int .i64 (0)) rfl) rfl ?_
    refine wl_nil ?_
    refine hK13 _ _ ?_
    refine w_block ?_
    refine w_for (σ := Nat) (fun k => [(0, .slice a (xs.length) (ca)), (1, .slice b (cs.length) (cb)), (2, .slice c (ys.length) (cc)), (3, .slice d (ds.length) (cd)), (9, .int .i64 (((chN xs cs ys ds k : Nat) : Int))), (10, .int .i64 (((k : Nat) : Int)))]) (fun k w' => (k ≤ xs.length) ∧ (Below w.heap.size w w')) (fun k => xs.length - k) (0) ⟨rfl, rfl, rfl, rfl, rfl, rfl, trivial⟩ ?_ ?_
    · exact ⟨Nat.zero_le _, hB0⟩
    · rintro k b16 w14 ⟨hk, hB1⟩
      show Wp _ _ _ _ (upds b16 [(0, .slice a (xs.length) (ca)), (1, .slice b (cs.length) (cb)), (2, .slice c (ys.length) (cc)), (3, .slice d (ds.length) (cd)), (9, .int .i64 (((chN xs cs ys ds k : Nat) : Int))), (10, .int .i64 (((k : Nat) : Int)))]) w14
      have hB1z := hB1.size
      have hnk := chN_le (xs := xs) (cs := cs) (ds := ds) hl3 k
      refine w_seq fun K17 hK17 => ?_
      refine w_seq fun K18 hK18 => ?_
      refine w_region ?_
      refine wl_val (g_move (v := .int .i64 (((k : Nat) : Int))) rfl) rfl ?_
      refine wl_val (g_move (v := .slice a (xs.length) (ca)) rfl) rfl ?_
      refine wl_val (g_len' (a := a) (l := (xs.length)) (c := ca) SL22 rfl) rfl ?_
      refine wl_val (g_lss (a := ((k : Nat) : Int)) (b := ((xs.length : Nat) : Int)) rfl rfl) rfl ?_
      refine wl_nil ?_
      refine hK18 _ _ ?_
      refine w_cond_d (p := ((k : Nat) : Int) < ((xs.length : Nat) : Int)) rfl (fun h19 => ?_) (fun h19 => ?_)
      · refine w_skip ?_
        refine hK17 _ _ ?_
        refine w_seq fun K20 hK20 => ?_
        refine w_block ?_
        refine w_seq fun K21 hK21 => ?_
        refine w_region ?_
        refine wl_val (g_assign (v := .int .i64 (0)) rfl) rfl ?_
        refine wl_nil ?_
        refine hK21 _ _ ?_
        refine w_block ?_
        refine w_for (σ := Nat) (fun i => [(0, .slice a (xs.length) (ca)), (1, .slice b (cs.length) (cb)), (2, .slice c (ys.length) (cc)), (3, .slice d (ds.length) (cd)), (9, .int .i64 (((chN xs cs ys ds k + chR xs cs ys ds k i : Nat) : Int))), (10, .int .i64 (((k : Nat) : Int))), (11, .int .i64 (((i : Nat) : Int)))]) (fun i w' => (i ≤ ys.length) ∧ (Below w.heap.size w w')) (fun i => ys.length - i) (0) ⟨rfl, rfl, rfl, rfl, rfl, rfl, rfl, trivial⟩ ?_ ?_
        · exact ⟨Nat.zero_le _, hB1⟩
        · rintro i b24 w22 ⟨hi, hB2⟩
          show Wp _ _ _ _ (upds b24 [(0, .slice a (xs.length) (ca)), (1, .slice b (cs.length) (cb)), (2, .slice c (ys.length) (cc)), (3, .slice d (ds.length) (cd)), (9, .int .i64 (((chN xs cs ys ds k + chR xs cs ys ds k i : Nat) : Int))), (10, .int .i64 (((k : Nat) : Int))), (11, .int .i64 (((i : Nat) : Int)))]) w22
          have hB2z := hB2.size
          have hrk := chR_le (xs := xs) (cs := cs) (ys := ys) (ds := ds) k i
          refine w_seq fun K25 hK25 => ?_
          refine w_seq fun K26 hK26 => ?_
          refine w_region ?_
          refine wl_val (g_move (v := .int .i64 (((i : Nat) : Int))) rfl) rfl ?_
          refine wl_val (g_move (v := .slice c (ys.length) (cc)) rfl) rfl ?_
          refine wl_val (g_len' (a := c) (l := (ys.length)) (c := cc) SL22 rfl) rfl ?_
          refine wl_val (g_lss (a := ((i : Nat) : Int)) (b := ((ys.length : Nat) : Int)) rfl rfl) rfl ?_
          refine wl_nil ?_
          refine hK26 _ _ ?_
          refine w_cond_d (p := ((i : Nat) : Int) < ((ys.length : Nat) : Int)) rfl (fun h27 => ?_) (fun h27 => ?_)
          · refine w_skip ?_
            refine hK25 _ _ ?_
            refine w_seq fun K28 hK28 => ?_
            refine w_block ?_
            refine w_seq fun K29 hK29 => ?_
            refine w_draw (X := Ext) [] MIX (by decide +kernel) Ext.refl (fun _ _ _ => Ext.trans) (fun w30 hE31 => ?_)
            have hs32 := hE31.size
            have hB33 := Ext.below hB2 hE31 (by omega)
            have hz34 := hB33.size
            refine ⟨.slice a (xs.length) (ca), fun w35 hX36 => od_plain rfl (by have hX36z := hX36.size; exact is_ext (g_move (v := .slice a (xs.length) (ca)) rfl)), ?_⟩
            refine ⟨.int .i64 (((k : Nat) : Int)), fun w37 hX38 => od_plain rfl (by have hX38z := hX38.size; exact is_ext (g_move (v := .int .i64 (((k : Nat) : Int))) rfl)), ?_⟩
            refine ⟨.pointer (some ((adr a).add (k * 1))), fun w39 hX40 => od_plain rfl (by have hX40z := hX40.size; exact is_ext (g_index (a := a) (l := (xs.length)) (c := ca) (i := ((k : Nat) : Int)) SL22 rfl rfl (Cells.intSome (i := ((k : Nat) : Int)) (Cells.ext (Cells.below hx hB33 (by omega)) hX40 (by omega)) (by omega) (by omega)) (by omega) (by omega))), ?_⟩
            refine ⟨.int .i64 (xs[k]!), fun w41 hX42 => od_plain rfl (by have hX42z := hX42.size; exact is_ext (g_load1 (q := (adr a).add (k * 1)) (v := .int .i64 (xs[k]!)) ON3 rfl (Cells.int (i := ((k : Nat) : Int)) (Cells.ext (Cells.below hx hB33 (by omega)) hX42 (by omega)) (by omega) (by omega)))), ?_⟩
            refine ⟨.slice c (ys.length) (cc), fun w43 hX44 => od_plain rfl (by have hX44z := hX44.size; exact is_ext (g_move (v := .slice c (ys.length) (cc)) rfl)), ?_⟩
            refine ⟨.int .i64 (((i : Nat) : Int)), fun w45 hX46 => od_plain rfl (by have hX46z := hX46.size; exact is_ext (g_move (v := .int .i64 (((i : Nat) : Int))) rfl)), ?_⟩
            refine ⟨.pointer (some ((adr c).add (i * 1))), fun w47 hX48 => od_plain rfl (by have hX48z := hX48.size; exact is_ext (g_index (a := c) (l := (ys.length)) (c := cc) (i := ((i : Nat) : Int)) SL22 rfl rfl (Cells.intSome (i := ((i : Nat) : Int)) (Cells.ext (Cells.below hy hB33 (by omega)) hX48 (by omega)) (by omega) (by omega)) (by omega) (by omega))), ?_⟩
            refine ⟨.int .i64 (ys[i]!), fun w49 hX50 => od_plain rfl (by have hX50z := hX50.size; exact is_ext (g_load1 (q := (adr c).add (i * 1)) (v := .int .i64 (ys[i]!)) ON3 rfl (Cells.int (i := ((i : Nat) : Int)) (Cells.ext (Cells.below hy hB33 (by omega)) hX50 (by omega)) (by omega) (by omega)))), ?_⟩
            refine ⟨.bool (decide (xs[k]! = ys[i]!)), fun w51 hX52 => od_plain rfl (by have hX52z := hX52.size; exact is_ext (g_eql (a := xs[k]!) (b := ys[i]!) rfl rfl)), ?_⟩
            refine ⟨.bool (decide (xs[k]! = ys[i]!)), fun w53 hX54 => od_plain rfl (by have hX54z := hX54.size; exact is_ext (g_move (v := .bool (decide (xs[k]! = ys[i]!))) rfl)), ?_⟩
            refine ⟨if (decide (xs[k]! = ys[i]!)) = true then .slice b (cs.length) (cb) else undef, fun w55 hX56 => od_guard (val := .slice b (cs.length) (cb)) (b := ((decide (xs[k]! = ys[i]!)) == true)) (gv_some rfl rfl rfl) beq_iff_eq (fun hg57 => ?_), ?_⟩
            · have hg57p := of_decide_eq_true hg57
              have hX56z := hX56.size
              exact is_ext (g_move (v := .slice b (cs.length) (cb)) rfl)
            refine ⟨if (decide (xs[k]! = ys[i]!)) = true then .int .i64 (((k : Nat) : Int)) else undef, fun w58 hX59 => od_guard (val := .int .i64 (((k : Nat) : Int))) (b := ((decide (xs[k]! = ys[i]!)) == true)) (gv_some rfl rfl rfl) beq_iff_eq (fun hg60 => ?_), ?_⟩
            · have hg60p := of_decide_eq_true hg60
              have hX59z := hX59.size
              exact is_ext (g_move (v := .int .i64 (((k : Nat) : Int))) rfl)
            refine ⟨if (decide (xs[k]! = ys[i]!)) = true then .pointer (some ((adr b).add (k * 1))) else undef, fun w61 hX62 => od_guard (val := .pointer (some ((adr b).add (k * 1)))) (b := ((decide (xs[k]! = ys[i]!)) == true)) (gv_some rfl rfl rfl) beq_iff_eq (fun hg63 => ?_), ?_⟩
            · have hg63p := of_decide_eq_true hg63
              have hX62z := hX62.size
              exact is_ext (g_index (a := b) (l := (cs.length)) (c := cb) (i := ((k : Nat) : Int)) SL22 (if_pos (e := undef) hg63) (if_pos (e := undef) hg63) (Cells.intSome (i := ((k : Nat) : Int)) (Cells.ext (Cells.below hc hB33 (by omega)) hX62 (by omega)) (by omega) (by omega)) (by omega) (by omega))
            refine ⟨if (decide (xs[k]! = ys[i]!)) = true then .int .i64 (cs[k]!) else undef, fun w64 hX65 => od_guard (val := .int .i64 (cs[k]!)) (b := ((decide (xs[k]! = ys[i]!)) == true)) (gv_some rfl rfl rfl) beq_iff_eq (fun hg66 => ?_), ?_⟩
            · have hg66p := of_decide_eq_true hg66
              have hX65z := hX65.size
              exact is_ext (g_load1 (q := (adr b).add (k * 1)) (v := .int .i64 (cs[k]!)) ON3 (if_pos (e := undef) hg66) (Cells.int (i := ((k : Nat) : Int)) (Cells.ext (Cells.below hc hB33 (by omega)) hX65 (by omega)) (by omega) (by omega)))
            refine ⟨if (decide (xs[k]! = ys[i]!)) = true then .slice d (ds.length) (cd) else undef, fun w67 hX68 => od_guard (val := .slice d (ds.length) (cd)) (b := ((decide (xs[k]! = ys[i]!)) == true)) (gv_some rfl rfl rfl) beq_iff_eq (fun hg69 => ?_), ?_⟩
            · have hg69p := of_decide_eq_true hg69
              have hX68z := hX68.size
              exact is_ext (g_move (v := .slice d (ds.length) (cd)) rfl)
            refine ⟨if (decide (xs[k]! = ys[i]!)) = true then .int .i64 (((i : Nat) : Int)) else undef, fun w70 hX71 => od_guard (val := .int .i64 (((i : Nat) : Int))) (b := ((decide (xs[k]! = ys[i]!)) == true)) (gv_some rfl rfl rfl) beq_iff_eq (fun hg72 => ?_), ?_⟩
            · have hg72p := of_decide_eq_true hg72
              have hX71z := hX71.size
              exact is_ext (g_move (v := .int .i64 (((i : Nat) : Int))) rfl)
            refine ⟨if (decide (xs[k]! = ys[i]!)) = true then .pointer (some ((adr d).add (i * 1))) else undef, fun w73 hX74 => od_guard (val := .pointer (some ((adr d).add (i * 1)))) (b := ((decide (xs[k]! = ys[i]!)) == true)) (gv_some rfl rfl rfl) beq_iff_eq (fun hg75 => ?_), ?_⟩
            · have hg75p := of_decide_eq_true hg75
              have hX74z := hX74.size
              exact is_ext (g_index (a := d) (l := (ds.length)) (c := cd) (i := ((i : Nat) : Int)) SL22 (if_pos (e := undef) hg75) (if_pos (e := undef) hg75) (Cells.intSome (i := ((i : Nat) : Int)) (Cells.ext (Cells.below hd hB33 (by omega)) hX74 (by omega)) (by omega) (by omega)) (by omega) (by omega))
            refine ⟨if (decide (xs[k]! = ys[i]!)) = true then .int .i64 (ds[i]!) else undef, fun w76 hX77 => od_guard (val := .int .i64 (ds[i]!)) (b := ((decide (xs[k]! = ys[i]!)) == true)) (gv_some rfl rfl rfl) beq_iff_eq (fun hg78 => ?_), ?_⟩
            · have hg78p := of_decide_eq_true hg78
              have hX77z := hX77.size
              exact is_ext (g_load1 (q := (adr d).add (i * 1)) (v := .int .i64 (ds[i]!)) ON3 (if_pos (e := undef) hg78) (Cells.int (i := ((i : Nat) : Int)) (Cells.ext (Cells.below hd hB33 (by omega)) hX77 (by omega)) (by omega) (by omega)))
            refine ⟨if (decide (xs[k]! = ys[i]!)) = true then .bool (decide (cs[k]! ≠ ds[i]!)) else undef, fun w79 hX80 => od_guard (val := .bool (decide (cs[k]! ≠ ds[i]!))) (b := ((decide (xs[k]! = ys[i]!)) == true)) (gv_some rfl rfl rfl) beq_iff_eq (fun hg81 => ?_), ?_⟩
            · have hg81p := of_decide_eq_true hg81
              have hX80z := hX80.size
              exact is_ext (g_neq (a := cs[k]!) (b := ds[i]!) (if_pos (e := undef) hg81) (if_pos (e := undef) hg81))
            refine ⟨.bool ((decide (xs[k]! = ys[i]!) && decide (cs[k]! ≠ ds[i]!))), fun w82 hX83 => od_plain rfl (by have hX83z := hX83.size; exact is_ext (g_pick_and (b := (decide (xs[k]! = ys[i]!))) (q := (decide (cs[k]! ≠ ds[i]!))) rfl rfl)), ?_⟩
            intro w84 hX85
            have hs86 := hX85.size
            have hB87 := Ext.below hB33 hX85 (by omega)
            have hz88 := hB87.size
            refine hK29 _ _ ?_
            refine w_cond (b := ((decide (xs[k]! = ys[i]!) && decide (cs[k]! ≠ ds[i]!)))) rfl (fun h89 => ?_) (fun h89 => ?_)
            · replace h89 := (fun h => And.imp of_decide_eq_true of_decide_eq_true (bt_and h)) h89
              refine w_region ?_
              refine wl_val (g_move (v := .int .i64 (((chN xs cs ys ds k + chR xs cs ys ds k i : Nat) : Int))) rfl) rfl ?_
              refine wl_val (g_add (a := ((chN xs cs ys ds k + chR xs cs ys ds k i : Nat) : Int)) (b := 1) rfl rfl ⟨by omega, by omega⟩) rfl ?_
              refine wl_val (g_assign (v := .int .i64 ((((chN xs cs ys ds k + chR xs cs ys ds k i : Nat) : Int) + 1))) rfl) rfl ?_
              refine wl_nil ?_
              refine hK28 _ _ ?_
              refine w_region ?_
              refine wl_val (g_move (v := .int .i64 (((i : Nat) : Int))) rfl) rfl ?_
              refine wl_val (g_add (a := ((i : Nat) : Int)) (b := 1) rfl rfl ⟨by omega, by omega⟩) rfl ?_
              refine wl_val (g_assign (v := .int .i64 ((((i : Nat) : Int) + 1))) rfl) rfl ?_
              refine wl_nil ?_
              exact ⟨(i + 1), (by first | omega | (dsimp only; omega)), ⟨rfl, rfl, rfl, rfl, congrArg (Value.int .i64) (ch_yes h89), rfl, rfl, trivial⟩, ⟨by omega, hB87⟩⟩
            · replace h89 := (fun h => Or.imp of_decide_eq_false of_decide_eq_false (bf_and h)) h89
              refine w_skip ?_
              refine hK28 _ _ ?_
              refine w_region ?_
              refine wl_val (g_move (v := .int .i64 (((i : Nat) : Int))) rfl) rfl ?_
              refine wl_val (g_add (a := ((i : Nat) : Int)) (b := 1) rfl rfl ⟨by omega, by omega⟩) rfl ?_
              refine wl_val (g_assign (v := .int .i64 ((((i : Nat) : Int) + 1))) rfl) rfl ?_
              refine wl_nil ?_
              exact ⟨(i + 1), (by first | omega | (dsimp only; omega)), ⟨rfl, rfl, rfl, rfl, congrArg (Value.int .i64) (ch_no h89), rfl, rfl, trivial⟩, ⟨by omega, hB87⟩⟩
          · refine w_exit ?_
            obtain rfl : i = ys.length := by omega
            refine hK20 _ _ ?_
            refine w_region ?_
            refine wl_val (g_move (v := .int .i64 (((k : Nat) : Int))) rfl) rfl ?_
            refine wl_val (g_add (a := ((k : Nat) : Int)) (b := 1) rfl rfl ⟨by omega, by omega⟩) rfl ?_
            refine wl_val (g_assign (v := .int .i64 ((((k : Nat) : Int) + 1))) rfl) rfl ?_
            refine wl_nil ?_
            exact ⟨(k + 1), (by first | omega | (dsimp only; omega)), ⟨rfl, rfl, rfl, rfl, rfl, rfl, trivial⟩, ⟨by omega, hB2⟩⟩
      · refine w_exit ?_
        refine hK12 _ _ ?_
        refine w_seq fun K90 hK90 => ?_
        refine w_region ?_
        refine wl_val (g_move (v := .int .i64 (((chN xs cs ys ds k : Nat) : Int))) rfl) rfl ?_
        refine wl_val (g_assign (v := .int .i64 (((chN xs cs ys ds k : Nat) : Int))) rfl) rfl ?_
        refine wl_nil ?_
        refine hK90 _ _ ?_
        refine w_ret ?_
        obtain rfl : k = xs.length := by omega
        exact ret1 rfl (by decide) ⟨congrArg (Value.int .i64) (ch_good ⟨hlc, hld⟩).symm, toExt hB1⟩
end Go.Proofs.Ytppoelhflegpnaa
