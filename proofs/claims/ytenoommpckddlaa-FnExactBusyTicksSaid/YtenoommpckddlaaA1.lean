import Derived.Test.YtenoommpckddlaaFacts
import Derived.Test.YtenoommpckddlaaPlainA
namespace Go.Proofs.Ytenoommpckddlaa
open Go Go.RowKit
theorem indexOf_fn {lo hi : Nat} {a : Option Addr} {c : Nat} {xs : List Int} (n : Int) {w : World} (hx : Ints lo hi w a xs) (hhi : hi ≤ w.heap.size) (hl : xs.length ≤ 1099511627776) :
    Fn Try.prog 32 #[.slice a (xs.length) (c), .int .i64 (n)] w (RetV w (.int .i64 (ixOf xs n))) := by
  refine fn_of_wp Try.func32 rfl (by kernel_rfl) (Nat.le_of_ble_eq_true rfl) ?_
  have hB0 := Below.refl w.heap.size w
  have hz0 := hB0.size
  refine w_seq fun K1 hK1 => ?_
  refine w_region ?_
  refine wl_val (g_assign (v := .int .i64 (0)) rfl) rfl ?_
  refine wl_nil ?_
  refine hK1 _ _ ?_
  refine w_seq fun K2 hK2 => ?_
  refine w_seq fun K3 hK3 => ?_
  refine w_region ?_
  refine wl_val (g_move (v := .slice a (xs.length) (c)) rfl) rfl ?_
  refine wl_val (g_len' (a := a) (l := (xs.length)) (c := c) SL22 rfl) rfl ?_
  refine wl_val (g_move (v := .int .i64 (0)) rfl) rfl ?_
  refine wl_nil ?_
  refine hK3 _ _ ?_
  refine w_block ?_
  refine w_for (σ := Nat) (fun k => [(0, .slice a (xs.length) (c)), (1, .int .i64 (n)), (7, .slice a (xs.length) (c)), (8, .int .i64 (((xs.length : Nat) : Int))), (9, .int .i64 (((k : Nat) : Int)))]) (fun k w' => (k ≤ xs.length) ∧ (Below w.heap.size w w') ∧ (Hid (ixOf xs n = ixFrom n (xs.drop k) k))) (fun k => xs.length - k) (0) ⟨rfl, rfl, rfl, rfl, rfl, trivial⟩ ?_ ?_
  · exact ⟨Nat.zero_le _, hB0, rfl⟩
  · rintro k b6 w4 ⟨hk, hB1, hr⟩
    show Wp _ _ _ _ (upds b6 [(0, .slice a (xs.length) (c)), (1, .int .i64 (n)), (7, .slice a (xs.length) (c)), (8, .int .i64 (((xs.length : Nat) : Int))), (9, .int .i64 (((k : Nat) : Int)))]) w4
    have hB1z := hB1.size
    refine w_seq fun K7 hK7 => ?_
    refine w_region ?_
    refine wl_val (g_lss (a := ((k : Nat) : Int)) (b := ((xs.length : Nat) : Int)) rfl rfl) rfl ?_
    refine wl_nil ?_
    refine hK7 _ _ ?_
    refine w_seq fun K8 hK8 => ?_
    refine w_cond_d (p := ((k : Nat) : Int) < ((xs.length : Nat) : Int)) rfl (fun h9 => ?_) (fun h9 => ?_)
    · refine w_skip ?_
      refine hK8 _ _ ?_
      refine w_seq fun K10 hK10 => ?_
      refine w_block ?_
      refine w_seq fun K11 hK11 => ?_
      refine w_region ?_
      refine wl_val (g_move (v := .int .i64 (((k : Nat) : Int))) rfl) rfl ?_
      refine wl_val (g_index (a := a) (l := (xs.length)) (c := c) (i := ((k : Nat) : Int)) SL22 rfl rfl (Cells.intSome (i := ((k : Nat) : Int)) (Cells.below hx hB1 (by omega)) (by omega) (by omega)) (by omega) (by omega)) rfl ?_
      refine wl_val (g_load1 (q := (adr a).add (k * 1)) (v := .int .i64 (xs[k]!)) ON3 rfl (Cells.int (i := ((k : Nat) : Int)) (Cells.below hx hB1 (by omega)) (by omega) (by omega))) rfl ?_
      refine wl_val (g_assign (v := .int .i64 (((k : Nat) : Int))) rfl) rfl ?_
      refine wl_val (g_assign (v := .int .i64 (xs[k]!)) rfl) rfl ?_
      refine wl_nil ?_
      refine hK11 _ _ ?_
      refine w_seq fun K12 hK12 => ?_
      refine w_region ?_
      refine wl_val (g_move (v := .int .i64 (xs[k]!)) rfl) rfl ?_
      refine wl_val (g_move (v := .int .i64 (n)) rfl) rfl ?_
      refine wl_val (g_eql (a := xs[k]!) (b := n) rfl rfl) rfl ?_
      refine wl_nil ?_
      refine hK12 _ _ ?_
      refine w_cond_d (p := xs[k]! = n) rfl (fun h13 => ?_) (fun h13 => ?_)
      · refine w_seq fun K14 hK14 => ?_
        refine w_region ?_
        refine wl_val (g_move (v := .int .i64 (((k : Nat) : Int))) rfl) rfl ?_
        refine wl_val (g_assign (v := .int .i64 (((k : Nat) : Int))) rfl) rfl ?_
        refine wl_nil ?_
        refine hK14 _ _ ?_
        refine w_ret ?_
        exact ret1 rfl (by decide) ⟨congrArg (Value.int .i64) (hr.out.trans ((ix_step (by omega)).trans (if_pos h13))).symm, toExt hB1⟩
      · refine w_skip ?_
        refine hK10 _ _ ?_
        refine w_region ?_
        refine wl_val (g_add (a := ((k : Nat) : Int)) (b := 1) rfl rfl ⟨by omega, by omega⟩) rfl ?_
        refine wl_val (g_move (v := .int .i64 ((((k : Nat) : Int) + 1))) rfl) rfl ?_
        refine wl_nil ?_
        exact ⟨(k + 1), (by first | omega | (dsimp only; omega)), ⟨rfl, rfl, rfl, rfl, rfl, trivial⟩, ⟨by omega, hB1, hr.out.trans ((ix_step (by omega)).trans (if_neg h13))⟩⟩
    · refine w_exit ?_
      refine hK2 _ _ ?_
      refine w_seq fun K15 hK15 => ?_
      refine w_region ?_
      refine wl_val (g_assign (v := .int .i64 ((-1))) rfl) rfl ?_
      refine wl_nil ?_
      refine hK15 _ _ ?_
      refine w_ret ?_
      exact ret1 rfl (by decide) ⟨congrArg (Value.int .i64) (hr.out.trans (ix_end (by omega))).symm, toExt hB1⟩
theorem specCountRails_fn {lo hi : Nat} {a : Option Addr} {c : Nat} {xs : List Int} {w : World} (hx : Ints lo hi w a xs) (hhi : hi ≤ w.heap.size) (hl : xs.length ≤ 1099511627776) :
    Fn Try.prog 10 #[.slice a (xs.length) (c)] w (RetV w (.int .i64 ((countRails xs : Nat) : Int))) := by
  refine fn_of_wp Try.func10 rfl (by kernel_rfl) (Nat.le_of_ble_eq_true rfl) ?_
  have hB0 := Below.refl w.heap.size w
  have hz0 := hB0.size
  refine w_seq fun K1 hK1 => ?_
  refine w_region ?_
  refine wl_val (g_assign (v := .int .i64 (0)) rfl) rfl ?_
  refine wl_nil ?_
  refine hK1 _ _ ?_
  refine w_seq fun K2 hK2 => ?_
  refine w_region ?_
  refine wl_val (g_assign (v := .int .i64 (0)) rfl) rfl ?_
  refine wl_nil ?_
  refine hK2 _ _ ?_
  refine w_seq fun K3 hK3 => ?_
  refine w_seq fun K4 hK4 => ?_
  refine w_region ?_
  refine wl_val (g_assign (v := .int .i64 (0)) rfl) rfl ?_
  refine wl_nil ?_
  refine hK4 _ _ ?_
  refine w_block ?_
  refine w_for (σ := Nat × Nat) (fun ⟨k, m⟩ => [(0, .slice a (xs.length) (c)), (3, .int .i64 (((m : Nat) : Int))), (4, .int .i64 (((k : Nat) : Int)))]) (fun ⟨k, m⟩ w' => (k ≤ xs.length) ∧ (m ≤ k) ∧ (Below w.heap.size w w') ∧ (Hid (countRails xs = m + crF xs (xs.length - k) k))) (fun ⟨k, m⟩ => xs.length - k) (0, 0) ⟨rfl, rfl, rfl, trivial⟩ ?_ ?_
  · exact ⟨Nat.zero_le _, Nat.le_refl _, hB0, (Nat.zero_add _).symm⟩
  · rintro ⟨k, m⟩ b7 w5 ⟨hk, hm, hB1, hr⟩
    show Wp _ _ _ _ (upds b7 [(0, .slice a (xs.length) (c)), (3, .int .i64 (((m : Nat) : Int))), (4, .int .i64 (((k : Nat) : Int)))]) w5
    have hB1z := hB1.size
    refine w_seq fun K8 hK8 => ?_
    refine w_seq fun K9 hK9 => ?_
    refine w_region ?_
    refine wl_val (g_move (v := .int .i64 (((k : Nat) : Int))) rfl) rfl ?_
    refine wl_val (g_move (v := .slice a (xs.length) (c)) rfl) rfl ?_
    refine wl_val (g_len' (a := a) (l := (xs.length)) (c := c) SL22 rfl) rfl ?_
    refine wl_val (g_lss (a := ((k : Nat) : Int)) (b := ((xs.length : Nat) : Int)) rfl rfl) rfl ?_
    refine wl_nil ?_
    refine hK9 _ _ ?_
    refine w_cond_d (p := ((k : Nat) : Int) < ((xs.length : Nat) : Int)) rfl (fun h10 => ?_) (fun h10 => ?_)
    · refine w_skip ?_
      refine hK8 _ _ ?_
      refine w_seq fun K11 hK11 => ?_
      refine w_block ?_
      refine w_seq fun K12 hK12 => ?_
      refine w_region ?_
      refine wl_val (g_assign (v := .bool (true)) rfl) rfl ?_
      refine wl_nil ?_
      refine hK12 _ _ ?_
      refine w_seq fun K13 hK13 => ?_
      refine w_seq fun K14 hK14 => ?_
      refine w_region ?_
      refine wl_val (g_assign (v := .int .i64 (0)) rfl) rfl ?_
      refine wl_nil ?_
      refine hK14 _ _ ?_
      refine w_block ?_
      refine w_for (σ := Nat) (fun i => [(0, .slice a (xs.length) (c)), (3, .int .i64 (((m : Nat) : Int))), (4, .int .i64 (((k : Nat) : Int))), (5, .bool (decide (xs[k]! ∉ xs.take i))), (6, .int .i64 (((i : Nat) : Int)))]) (fun i w' => (i ≤ k) ∧ (Below w.heap.size w w')) (fun i => k - i) (0) ⟨rfl, rfl, rfl, rfl, rfl, trivial⟩ ?_ ?_
      · exact ⟨Nat.zero_le _, hB1⟩
      · rintro i b17 w15 ⟨hi, hB2⟩
        show Wp _ _ _ _ (upds b17 [(0, .slice a (xs.length) (c)), (3, .int .i64 (((m : Nat) : Int))), (4, .int .i64 (((k : Nat) : Int))), (5, .bool (decide (xs[k]! ∉ xs.take i))), (6, .int .i64 (((i : Nat) : Int)))]) w15
        have hB2z := hB2.size
        refine w_seq fun K18 hK18 => ?_
        refine w_seq fun K19 hK19 => ?_
        refine w_region ?_
        refine wl_val (g_move (v := .int .i64 (((i : Nat) : Int))) rfl) rfl ?_
        refine wl_val (g_move (v := .int .i64 (((k : Nat) : Int))) rfl) rfl ?_
        refine wl_val (g_lss (a := ((i : Nat) : Int)) (b := ((k : Nat) : Int)) rfl rfl) rfl ?_
        refine wl_nil ?_
        refine hK19 _ _ ?_
        refine w_cond_d (p := ((i : Nat) : Int) < ((k : Nat) : Int)) rfl (fun h20 => ?_) (fun h20 => ?_)
        · refine w_skip ?_
          refine hK18 _ _ ?_
          refine w_seq fun K21 hK21 => ?_
          refine w_block ?_
          refine w_draw (X := Ext) [] MIX (by decide +kernel) Ext.refl (fun _ _ _ => Ext.trans) (fun w22 hE23 => ?_)
          have hs24 := hE23.size
          have hB25 := Ext.below hB2 hE23 (by omega)
          have hz26 := hB25.size
          refine ⟨.bool (decide (xs[k]! ∉ xs.take i)), fun w27 hX28 => od_plain rfl (by have hX28z := hX28.size; exact is_ext (g_move (v := .bool (decide (xs[k]! ∉ xs.take i))) rfl)), ?_⟩
          refine ⟨.bool (decide (xs[k]! ∉ xs.take i)), fun w29 hX30 => od_plain rfl (by have hX30z := hX30.size; exact is_ext (g_move (v := .bool (decide (xs[k]! ∉ xs.take i))) rfl)), ?_⟩
          refine ⟨if (decide (xs[k]! ∉ xs.take i)) = true then .slice a (xs.length) (c) else undef, fun w31 hX32 => od_guard (val := .slice a (xs.length) (c)) (b := ((decide (xs[k]! ∉ xs.take i)) == true)) (gv_some rfl rfl rfl) beq_iff_eq (fun hg33 => ?_), ?_⟩
          · have hg33p := of_decide_eq_true hg33
            have hX32z := hX32.size
            exact is_ext (g_move (v := .slice a (xs.length) (c)) rfl)
          refine ⟨if (decide (xs[k]! ∉ xs.take i)) = true then .int .i64 (((i : Nat) : Int)) else undef, fun w34 hX35 => od_guard (val := .int .i64 (((i : Nat) : Int))) (b := ((decide (xs[k]! ∉ xs.take i)) == true)) (gv_some rfl rfl rfl) beq_iff_eq (fun hg36 => ?_), ?_⟩
          · have hg36p := of_decide_eq_true hg36
            have hX35z := hX35.size
            exact is_ext (g_move (v := .int .i64 (((i : Nat) : Int))) rfl)
          refine ⟨if (decide (xs[k]! ∉ xs.take i)) = true then .pointer (some ((adr a).add (i * 1))) else undef, fun w37 hX38 => od_guard (val := .pointer (some ((adr a).add (i * 1)))) (b := ((decide (xs[k]! ∉ xs.take i)) == true)) (gv_some rfl rfl rfl) beq_iff_eq (fun hg39 => ?_), ?_⟩
          · have hg39p := of_decide_eq_true hg39
            have hX38z := hX38.size
            exact is_ext (g_index (a := a) (l := (xs.length)) (c := c) (i := ((i : Nat) : Int)) SL22 (if_pos hg39) (if_pos hg39) (Cells.intSome (i := ((i : Nat) : Int)) (Cells.ext (Cells.below hx hB25 (by omega)) hX38 (by omega)) (by omega) (by omega)) (by omega) (by omega))
          refine ⟨if (decide (xs[k]! ∉ xs.take i)) = true then .int .i64 (xs[i]!) else undef, fun w40 hX41 => od_guard (val := .int .i64 (xs[i]!)) (b := ((decide (xs[k]! ∉ xs.take i)) == true)) (gv_some rfl rfl rfl) beq_iff_eq (fun hg42 => ?_), ?_⟩
          · have hg42p := of_decide_eq_true hg42
            have hX41z := hX41.size
            exact is_ext (g_load1 (q := (adr a).add (i * 1)) (v := .int .i64 (xs[i]!)) ON3 (if_pos hg42) (Cells.int (i := ((i : Nat) : Int)) (Cells.ext (Cells.below hx hB25 (by omega)) hX41 (by omega)) (by omega) (by omega)))
          refine ⟨if (decide (xs[k]! ∉ xs.take i)) = true then .slice a (xs.length) (c) else undef, fun w43 hX44 => od_guard (val := .slice a (xs.length) (c)) (b := ((decide (xs[k]! ∉ xs.take i)) == true)) (gv_some rfl rfl rfl) beq_iff_eq (fun hg45 => ?_), ?_⟩
          · have hg45p := of_decide_eq_true hg45
            have hX44z := hX44.size
            exact is_ext (g_move (v := .slice a (xs.length) (c)) rfl)
          refine ⟨if (decide (xs[k]! ∉ xs.take i)) = true then .int .i64 (((k : Nat) : Int)) else undef, fun w46 hX47 => od_guard (val := .int .i64 (((k : Nat) : Int))) (b := ((decide (xs[k]! ∉ xs.take i)) == true)) (gv_some rfl rfl rfl) beq_iff_eq (fun hg48 => ?_), ?_⟩
          · have hg48p := of_decide_eq_true hg48
            have hX47z := hX47.size
            exact is_ext (g_move (v := .int .i64 (((k : Nat) : Int))) rfl)
          refine ⟨if (decide (xs[k]! ∉ xs.take i)) = true then .pointer (some ((adr a).add (k * 1))) else undef, fun w49 hX50 => od_guard (val := .pointer (some ((adr a).add (k * 1)))) (b := ((decide (xs[k]! ∉ xs.take i)) == true)) (gv_some rfl rfl rfl) beq_iff_eq (fun hg51 => ?_), ?_⟩
          · have hg51p := of_decide_eq_true hg51
            have hX50z := hX50.size
            exact is_ext (g_index (a := a) (l := (xs.length)) (c := c) (i := ((k : Nat) : Int)) SL22 (if_pos hg51) (if_pos hg51) (Cells.intSome (i := ((k : Nat) : Int)) (Cells.ext (Cells.below hx hB25 (by omega)) hX50 (by omega)) (by omega) (by omega)) (by omega) (by omega))
          refine ⟨if (decide (xs[k]! ∉ xs.take i)) = true then .int .i64 (xs[k]!) else undef, fun w52 hX53 => od_guard (val := .int .i64 (xs[k]!)) (b := ((decide (xs[k]! ∉ xs.take i)) == true)) (gv_some rfl rfl rfl) beq_iff_eq (fun hg54 => ?_), ?_⟩
          · have hg54p := of_decide_eq_true hg54
            have hX53z := hX53.size
            exact is_ext (g_load1 (q := (adr a).add (k * 1)) (v := .int .i64 (xs[k]!)) ON3 (if_pos hg54) (Cells.int (i := ((k : Nat) : Int)) (Cells.ext (Cells.below hx hB25 (by omega)) hX53 (by omega)) (by omega) (by omega)))
          refine ⟨if (decide (xs[k]! ∉ xs.take i)) = true then .bool (decide (xs[i]! ≠ xs[k]!)) else undef, fun w55 hX56 => od_guard (val := .bool (decide (xs[i]! ≠ xs[k]!))) (b := ((decide (xs[k]! ∉ xs.take i)) == true)) (gv_some rfl rfl rfl) beq_iff_eq (fun hg57 => ?_), ?_⟩
          · have hg57p := of_decide_eq_true hg57
            have hX56z := hX56.size
            exact is_ext (g_neq (a := xs[i]!) (b := xs[k]!) (if_pos hg57) (if_pos hg57))
          refine ⟨.bool ((decide (xs[k]! ∉ xs.take i) && decide (xs[i]! ≠ xs[k]!))), fun w58 hX59 => od_plain rfl (by have hX59z := hX59.size; exact is_ext (g_pick (b := (decide (xs[k]! ∉ xs.take i))) (v := .bool (decide (xs[k]! ∉ xs.take i) && decide (xs[i]! ≠ xs[k]!))) rfl (fun h => by simp only [ev]; first | (show (if _ then _ else _ : Value) = _; rw [if_pos h, h]; rfl)) (fun h => by rw [h]; rfl))), ?_⟩
          refine ⟨.bool ((decide (xs[k]! ∉ xs.take i) && decide (xs[i]! ≠ xs[k]!))), fun w60 hX61 => od_plain rfl (by have hX61z := hX61.size; exact is_ext (g_assign (v := .bool ((decide (xs[k]! ∉ xs.take i) && decide (xs[i]! ≠ xs[k]!)))) rfl)), ?_⟩
          intro w62 hX63
          have hs64 := hX63.size
          have hB65 := Ext.below hB25 hX63 (by omega)
          have hz66 := hB65.size
          refine hK21 _ _ ?_
          refine w_region ?_
          refine wl_val (g_move (v := .int .i64 (((i : Nat) : Int))) rfl) rfl ?_
          refine wl_val (g_add (a := ((i : Nat) : Int)) (b := 1) rfl rfl ⟨by omega, by omega⟩) rfl ?_
          refine wl_val (g_assign (v := .int .i64 ((((i : Nat) : Int) + 1))) rfl) rfl ?_
          refine wl_nil ?_
          exact ⟨(i + 1), (by first | omega | (dsimp only; omega)), ⟨rfl, rfl, rfl, congrArg Value.bool (cr_first (by omega)), rfl, trivial⟩, ⟨by omega, hB65⟩⟩
        · refine w_exit ?_
          obtain rfl : k = i := by omega
          refine hK13 _ _ ?_
          refine w_seq fun K67 hK67 => ?_
          refine w_region ?_
          refine wl_val (g_move (v := .bool (decide (xs[k]! ∉ xs.take k))) rfl) rfl ?_
          refine wl_nil ?_
          refine hK67 _ _ ?_
          refine w_cond (b := (decide (xs[k]! ∉ xs.take k))) rfl (fun h68 => ?_) (fun h68 => ?_)
          · replace h68 := of_decide_eq_true h68
            refine w_region ?_
            refine wl_val (g_move (v := .int .i64 (((m : Nat) : Int))) rfl) rfl ?_
            refine wl_val (g_add (a := ((m : Nat) : Int)) (b := 1) rfl rfl ⟨by omega, by omega⟩) rfl ?_
            refine wl_val (g_assign (v := .int .i64 ((((m : Nat) : Int) + 1))) rfl) rfl ?_
            refine wl_nil ?_
            refine hK11 _ _ ?_
            refine w_region ?_
            refine wl_val (g_move (v := .int .i64 (((k : Nat) : Int))) rfl) rfl ?_
            refine wl_val (g_add (a := ((k : Nat) : Int)) (b := 1) rfl rfl ⟨by omega, by omega⟩) rfl ?_
            refine wl_val (g_assign (v := .int .i64 ((((k : Nat) : Int) + 1))) rfl) rfl ?_
            refine wl_nil ?_
            exact ⟨(k + 1, m + 1), (by first | omega | (dsimp only; omega)), ⟨rfl, rfl, rfl, trivial⟩, ⟨by omega, by omega, hB2, cr_next1 hr.out (by omega) h68⟩⟩
          · replace h68 := of_decide_eq_false h68
            refine w_skip ?_
            refine hK11 _ _ ?_
            refine w_region ?_
            refine wl_val (g_move (v := .int .i64 (((k : Nat) : Int))) rfl) rfl ?_
            refine wl_val (g_add (a := ((k : Nat) : Int)) (b := 1) rfl rfl ⟨by omega, by omega⟩) rfl ?_
            refine wl_val (g_assign (v := .int .i64 ((((k : Nat) : Int) + 1))) rfl) rfl ?_
            refine wl_nil ?_
            exact ⟨(k + 1, m), (by first | omega | (dsimp only; omega)), ⟨rfl, rfl, rfl, trivial⟩, ⟨by omega, by omega, hB2, cr_next0 hr.out (by omega) h68⟩⟩
    · refine w_exit ?_
      refine hK3 _ _ ?_
      refine w_seq fun K69 hK69 => ?_
      refine w_region ?_
      refine wl_val (g_move (v := .int .i64 (((m : Nat) : Int))) rfl) rfl ?_
      refine wl_val (g_assign (v := .int .i64 (((m : Nat) : Int))) rfl) rfl ?_
      refine wl_nil ?_
      refine hK69 _ _ ?_
      refine w_ret ?_
      exact ret1 rfl (by decide) ⟨congrArg (fun x : Nat => Value.int .i64 x) (cr_done hr.out (by omega)).symm, toExt hB1⟩
theorem implCountRails_fn {lo hi : Nat} {a : Option Addr} {c : Nat} {xs : List Int} {w : World} (hx : Ints lo hi w a xs) (hhi : hi ≤ w.heap.size) (hl : xs.length ≤ 1099511627776) :
    Fn Try.prog 12 #[.slice a (xs.length) (c)] w (RetV w (.int .i64 ((countRails xs : Nat) : Int))) := by
  refine fn_of_wp Try.func12 rfl (by kernel_rfl) (Nat.le_of_ble_eq_true rfl) ?_
  have hB0 := Below.refl w.heap.size w
  have hz0 := hB0.size
  refine w_seq fun K1 hK1 => ?_
  refine w_region ?_
  refine wl_val (g_assign (v := .int .i64 (0)) rfl) rfl ?_
  refine wl_nil ?_
  refine hK1 _ _ ?_
  refine w_seq fun K2 hK2 => ?_
  refine w_region ?_
  refine wl_val (g_assign (v := .int .i64 (0)) rfl) rfl ?_
  refine wl_nil ?_
  refine hK2 _ _ ?_
  refine w_seq fun K3 hK3 => ?_
  refine w_seq fun K4 hK4 => ?_
  refine w_region ?_
  refine wl_val (g_move (v := .slice a (xs.length) (c)) rfl) rfl ?_
  refine wl_val (g_len' (a := a) (l := (xs.length)) (c := c) SL22 rfl) rfl ?_
  refine wl_val (g_move (v := .int .i64 (0)) rfl) rfl ?_
  refine wl_nil ?_
  refine hK4 _ _ ?_
  refine w_block ?_
  refine w_for (σ := Nat × Nat) (fun ⟨k, m⟩ => [(0, .slice a (xs.length) (c)), (3, .int .i64 (((m : Nat) : Int))), (6, .slice a (xs.length) (c)), (7, .int .i64 (((xs.length : Nat) : Int))), (8, .int .i64 (((k : Nat) : Int)))]) (fun ⟨k, m⟩ w' => (k ≤ xs.length) ∧ (m ≤ k) ∧ (Below w.heap.size w w') ∧ (Hid (countRails xs = m + crF xs (xs.length - k) k))) (fun ⟨k, m⟩ => xs.length - k) (0, 0) ⟨rfl, rfl, rfl, rfl, rfl, trivial⟩ ?_ ?_
  · exact ⟨Nat.zero_le _, Nat.le_refl _, hB0, (Nat.zero_add _).symm⟩
  · rintro ⟨k, m⟩ b7 w5 ⟨hk, hm, hB1, hr⟩
    show Wp _ _ _ _ (upds b7 [(0, .slice a (xs.length) (c)), (3, .int .i64 (((m : Nat) : Int))), (6, .slice a (xs.length) (c)), (7, .int .i64 (((xs.length : Nat) : Int))), (8, .int .i64 (((k : Nat) : Int)))]) w5
    have hB1z := hB1.size
    refine w_seq fun K8 hK8 => ?_
    refine w_region ?_
    refine wl_val (g_lss (a := ((k : Nat) : Int)) (b := ((xs.length : Nat) : Int)) rfl rfl) rfl ?_
    refine wl_nil ?_
    refine hK8 _ _ ?_
    refine w_seq fun K9 hK9 => ?_
    refine w_cond_d (p := ((k : Nat) : Int) < ((xs.length : Nat) : Int)) rfl (fun h10 => ?_) (fun h10 => ?_)
    · refine w_skip ?_
      refine hK9 _ _ ?_
      refine w_seq fun K11 hK11 => ?_
      refine w_block ?_
      refine w_seq fun K12 hK12 => ?_
      refine w_region ?_
      refine wl_val (g_move (v := .int .i64 (((k : Nat) : Int))) rfl) rfl ?_
      refine wl_val (g_index (a := a) (l := (xs.length)) (c := c) (i := ((k : Nat) : Int)) SL22 rfl rfl (Cells.intSome (i := ((k : Nat) : Int)) (Cells.below hx hB1 (by omega)) (by omega) (by omega)) (by omega) (by omega)) rfl ?_
      refine wl_val (g_load1 (q := (adr a).add (k * 1)) (v := .int .i64 (xs[k]!)) ON3 rfl (Cells.int (i := ((k : Nat) : Int)) (Cells.below hx hB1 (by omega)) (by omega) (by omega))) rfl ?_
      refine wl_val (g_assign (v := .int .i64 (((k : Nat) : Int))) rfl) rfl ?_
      refine wl_val (g_assign (v := .int .i64 (xs[k]!)) rfl) rfl ?_
      refine wl_nil ?_
      refine hK12 _ _ ?_
      refine w_seq fun K13 hK13 => ?_
      refine w_region ?_
      refine wl_val (g_move (v := .slice a (xs.length) (c)) rfl) rfl ?_
      refine wl_val (g_move (v := .int .i64 (xs[k]!)) rfl) rfl ?_
      refine wl_step rfl (g_call (vs := #[.slice a (xs.length) (c), .int .i64 (xs[k]!)]) CF32 (args2 rfl rfl) (indexOf_fn (xs[k]!) (Cells.below hx hB1 (by omega)) (by omega) (by first | omega | (simp; omega)))) ?_
      rintro _ w14 ⟨rfl, hE15⟩
      have hs16 := hE15.size
      have hB17 := Ext.below hB1 hE15 (by omega)
      have hz18 := hB17.size
      refine wl_val (g_move (v := .int .i64 (((k : Nat) : Int))) rfl) rfl ?_
      refine wl_val (g_eql (a := (ixOf xs (xs[k]!))) (b := ((k : Nat) : Int)) rfl rfl) rfl ?_
      refine wl_nil ?_
      refine hK13 _ _ ?_
      refine w_cond_d (p := (ixOf xs (xs[k]!)) = ((k : Nat) : Int)) rfl (fun h19 => ?_) (fun h19 => ?_)
      · refine w_region ?_
        refine wl_val (g_move (v := .int .i64 (((m : Nat) : Int))) rfl) rfl ?_
        refine wl_val (g_add (a := ((m : Nat) : Int)) (b := 1) rfl rfl ⟨by omega, by omega⟩) rfl ?_
        refine wl_val (g_assign (v := .int .i64 ((((m : Nat) : Int) + 1))) rfl) rfl ?_
        refine wl_nil ?_
        refine hK11 _ _ ?_
        refine w_region ?_
        refine wl_val (g_add (a := ((k : Nat) : Int)) (b := 1) rfl rfl ⟨by omega, by omega⟩) rfl ?_
        refine wl_val (g_move (v := .int .i64 ((((k : Nat) : Int) + 1))) rfl) rfl ?_
        refine wl_nil ?_
        exact ⟨(k + 1, m + 1), (by first | omega | (dsimp only; omega)), ⟨rfl, rfl, rfl, rfl, rfl, trivial⟩, ⟨by omega, by omega, hB17, cr_next1 hr.out (by omega) ((ixOf_self xs k (by omega)).1 h19)⟩⟩
      · refine w_skip ?_
        refine hK11 _ _ ?_
        refine w_region ?_
        refine wl_val (g_add (a := ((k : Nat) : Int)) (b := 1) rfl rfl ⟨by omega, by omega⟩) rfl ?_
        refine wl_val (g_move (v := .int .i64 ((((k : Nat) : Int) + 1))) rfl) rfl ?_
        refine wl_nil ?_
        exact ⟨(k + 1, m), (by first | omega | (dsimp only; omega)), ⟨rfl, rfl, rfl, rfl, rfl, trivial⟩, ⟨by omega, by omega, hB17, cr_next0 hr.out (by omega) (fun hx => h19 ((ixOf_self xs k (by omega)).2 hx))⟩⟩
    · refine w_exit ?_
      refine hK3 _ _ ?_
      refine w_seq fun K20 hK20 => ?_
      refine w_region ?_
      refine wl_val (g_move (v := .int .i64 (((m : Nat) : Int))) rfl) rfl ?_
      refine wl_val (g_assign (v := .int .i64 (((m : Nat) : Int))) rfl) rfl ?_
      refine wl_nil ?_
      refine hK20 _ _ ?_
      refine w_ret ?_
      exact ret1 rfl (by decide) ⟨congrArg (fun x : Nat => Value.int .i64 x) (cr_done hr.out (by omega)).symm, toExt hB1⟩
theorem toIntS_fn {lo hi : Nat} {a : Option Addr} {c : Nat} {xs : List Int} {w : World} (hx : Cells lo hi w a (intsC xs)) (hhi : hi ≤ w.heap.size) (hl : xs.length ≤ 1099511627776) :
    Fn Try.prog 11 #[.slice a (xs.length) (c)] w (RetS w 3 1 xs.length (intsC xs)) := by
  refine fn_of_wp Try.func11 rfl (by kernel_rfl) (Nat.le_of_ble_eq_true rfl) ?_
  have hB0 := Below.refl w.heap.size w
  have hz0 := hB0.size
  refine w_seq fun K1 hK1 => ?_
  refine w_region ?_
  refine wl_val (g_assign (v := .slice none (0) (0)) rfl) rfl ?_
  refine wl_nil ?_
  refine hK1 _ _ ?_
  refine w_seq fun K2 hK2 => ?_
  refine w_region ?_
  refine wl_val (g_move (v := .slice a (xs.length) (c)) rfl) rfl ?_
  refine wl_val (g_len' (a := a) (l := (xs.length)) (c := c) SL22 rfl) rfl ?_
  refine wl_step rfl (g_make (k := xs.length) SL22 rfl (by omega) (by unfold maxLen; omega)) ?_
  rintro _ w3 ⟨o, rfl, hO4, hE5⟩
  rw [made_int] at hO4
  have hs6 := hE5.size
  have hB7 := Ext.below hB0 hE5 (by omega)
  have hz8 := hB7.size
  refine wl_val (g_assign (v := .slice o (xs.length) (xs.length)) rfl) rfl ?_
  refine wl_nil ?_
  refine hK2 _ _ ?_
  refine w_seq fun K9 hK9 => ?_
  refine w_seq fun K10 hK10 => ?_
  refine w_region ?_
  refine wl_val (g_assign (v := .int .i64 (0)) rfl) rfl ?_
  refine wl_nil ?_
  refine hK10 _ _ ?_
  refine w_block ?_
  refine w_for (σ := Nat × List Int) (fun ⟨k, l⟩ => [(0, .slice a (xs.length) (c)), (3, .slice o (xs.length) (xs.length)), (4, .int .i64 (((k : Nat) : Int)))]) (fun ⟨k, l⟩ w' => (k ≤ xs.length) ∧ (l.length = xs.length) ∧ (l.take k = xs.take k) ∧ (Own w' w.heap.size 3 1 o xs.length xs.length (intsC l)) ∧ (Below w.heap.size w w')) (fun ⟨k, l⟩ => xs.length - k) (0, List.replicate xs.length (0 : Int)) ⟨rfl, rfl, rfl, trivial⟩ ?_ ?_
  · exact ⟨Nat.zero_le _, by simp, by simp, hO4.mono (by omega), hB7⟩
  · rintro ⟨k, l⟩ b13 w11 ⟨hk, hll, ht, hO, hB1⟩
    show Wp _ _ _ _ (upds b13 [(0, .slice a (xs.length) (c)), (3, .slice o (xs.length) (xs.length)), (4, .int .i64 (((k : Nat) : Int)))]) w11
    have hB1z := hB1.size
    refine w_seq fun K14 hK14 => ?_
    refine w_seq fun K15 hK15 => ?_
    refine w_region ?_
    refine wl_val (g_move (v := .int .i64 (((k : Nat) : Int))) rfl) rfl ?_
    refine wl_val (g_move (v := .slice a (xs.length) (c)) rfl) rfl ?_
    refine wl_val (g_len' (a := a) (l := (xs.length)) (c := c) SL22 rfl) rfl ?_
    refine wl_val (g_lss (a := ((k : Nat) : Int)) (b := ((xs.length : Nat) : Int)) rfl rfl) rfl ?_
    refine wl_nil ?_
    refine hK15 _ _ ?_
    refine w_cond_d (p := ((k : Nat) : Int) < ((xs.length : Nat) : Int)) rfl (fun h16 => ?_) (fun h16 => ?_)
    · refine w_skip ?_
      refine hK14 _ _ ?_
      refine w_seq fun K17 hK17 => ?_
      refine w_block ?_
      refine w_region ?_
      refine wl_val (g_move (v := .slice o (xs.length) (xs.length)) rfl) rfl ?_
      refine wl_val (g_move (v := .int .i64 (((k : Nat) : Int))) rfl) rfl ?_
      refine wl_val (g_move (v := .slice a (xs.length) (c)) rfl) rfl ?_
      refine wl_val (g_move (v := .int .i64 (((k : Nat) : Int))) rfl) rfl ?_
      refine wl_val (g_index (a := a) (l := (xs.length)) (c := c) (i := ((k : Nat) : Int)) SL22 rfl rfl (Cells.intSome (i := ((k : Nat) : Int)) (Cells.below hx hB1 (by omega)) (by omega) (by omega)) (by omega) (by omega)) rfl ?_
      refine wl_val (g_load1 (q := (adr a).add (k * 1)) (v := .int .i64 (xs[k]!)) ON3 rfl (Cells.int (i := ((k : Nat) : Int)) (Cells.below hx hB1 (by omega)) (by omega) (by omega))) rfl ?_
      refine wl_val (g_index (a := o) (l := (xs.length)) (c := (xs.length)) (i := ((k : Nat) : Int)) SL22 rfl rfl (Cells.intSome (i := ((k : Nat) : Int)) (Own.cells hO) (by omega) (by omega)) (by omega) (by omega)) rfl ?_
      refine wl_step rfl (g_store_one (f := (Value.int .i64)) (xs := l) (i := k) (v := xs[k]!) hO ON3 rfl rfl rfl rfl (by first | omega | (simp; omega))) ?_
      rintro _ w18 ⟨rfl, hO20, hC19⟩
      have hs21 := hC19.size
      have hB22 := Chg.below hB1 hC19 (by omega) (fun k hk => by have := hO.lt k hk; omega)
      have hz23 := hB22.size
      refine wl_nil ?_
      refine hK17 _ _ ?_
      refine w_region ?_
      refine wl_val (g_move (v := .int .i64 (((k : Nat) : Int))) rfl) rfl ?_
      refine wl_val (g_add (a := ((k : Nat) : Int)) (b := 1) rfl rfl ⟨by omega, by omega⟩) rfl ?_
      refine wl_val (g_assign (v := .int .i64 ((((k : Nat) : Int) + 1))) rfl) rfl ?_
      refine wl_nil ?_
      exact ⟨(k + 1, l.set k xs[k]!), (by first | omega | (dsimp only; omega)), ⟨rfl, rfl, rfl, trivial⟩, ⟨by omega, by simp; omega, Holds_set l xs k hll (by omega) ht, hO20, hB22⟩⟩
    · refine w_exit ?_
      refine hK9 _ _ ?_
      refine w_seq fun K24 hK24 => ?_
      refine w_region ?_
      refine wl_val (g_move (v := .slice o (xs.length) (xs.length)) rfl) rfl ?_
      refine wl_val (g_assign (v := .slice o (xs.length) (xs.length)) rfl) rfl ?_
      refine wl_nil ?_
      refine hK24 _ _ ?_
      refine w_ret ?_
      have hlx : l = xs := by have h1 := ht; rw [List.take_of_length_le (by omega), List.take_of_length_le (by omega)] at h1; exact h1
      subst hlx
      exact ret1 rfl (by decide) ⟨_, _, rfl, hO.nil0, hO, toExt hB1⟩
theorem eqIntS_fn {lo hi lo2 hi2 : Nat} {a b : Option Addr} {c d : Nat} {xs ys : List Int} {w : World} (hx : Cells lo hi w a (intsC xs)) (hy : Cells lo2 hi2 w b (intsC ys)) (hhi : hi ≤ w.heap.size) (hhi2 : hi2 ≤ w.heap.size) (hl : xs.length ≤ 1099511627776) :
    Fn Try.prog 13 #[.slice a (xs.length) (c), .slice b (ys.length) (d)] w (RetV w (.bool (decide (xs = ys)))) := by
  refine fn_of_wp Try.func13 rfl (by kernel_rfl) (Nat.le_of_ble_eq_true rfl) ?_
  have hB0 := Below.refl w.heap.size w
  have hz0 := hB0.size
  refine w_seq fun K1 hK1 => ?_
  refine w_region ?_
  refine wl_val (g_assign (v := .bool (false)) rfl) rfl ?_
  refine wl_nil ?_
  refine hK1 _ _ ?_
  refine w_seq fun K2 hK2 => ?_
  refine w_seq fun K3 hK3 => ?_
  refine w_region ?_
  refine wl_val (g_move (v := .slice a (xs.length) (c)) rfl) rfl ?_
  refine wl_val (g_len' (a := a) (l := (xs.length)) (c := c) SL22 rfl) rfl ?_
  refine wl_val (g_move (v := .slice b (ys.length) (d)) rfl) rfl ?_
  refine wl_val (g_len' (a := b) (l := (ys.length)) (c := d) SL22 rfl) rfl ?_
  refine wl_val (g_neq (a := ((xs.length : Nat) : Int)) (b := ((ys.length : Nat) : Int)) rfl rfl) rfl ?_
  refine wl_nil ?_
  refine hK3 _ _ ?_
  refine w_cond_d (p := ((xs.length : Nat) : Int) ≠ ((ys.length : Nat) : Int)) rfl (fun h4 => ?_) (fun h4 => ?_)
  · refine w_seq fun K5 hK5 => ?_
    refine w_region ?_
    refine wl_val (g_assign (v := .bool (false)) rfl) rfl ?_
    refine wl_nil ?_
    refine hK5 _ _ ?_
    refine w_ret ?_
    exact ret1 rfl (by decide) ⟨congrArg Value.bool (decide_eq_false (fun h => h4 (by rw [h]))).symm, toExt hB0⟩
  · refine w_skip ?_
    refine hK2 _ _ ?_
    refine w_seq fun K6 hK6 => ?_
    refine w_seq fun K7 hK7 => ?_
    refine w_region ?_
    refine wl_val (g_assign (v := .int .i64 (0)) rfl) rfl ?_
    refine wl_nil ?_
    refine hK7 _ _ ?_
    refine w_block ?_
    refine w_for (σ := Nat) (fun k => [(0, .slice a (xs.length) (c)), (1, .slice b (ys.length) (d)), (5, .int .i64 (((k : Nat) : Int)))]) (fun k w' => (k ≤ xs.length) ∧ (xs.take k = ys.take k) ∧ (Below w.heap.size w w')) (fun k => xs.length - k) (0) ⟨rfl, rfl, rfl, trivial⟩ ?_ ?_
    · exact ⟨Nat.zero_le _, rfl, hB0⟩
    · rintro k b10 w8 ⟨hk, ht, hB1⟩
      show Wp _ _ _ _ (upds b10 [(0, .slice a (xs.length) (c)), (1, .slice b (ys.length) (d)), (5, .int .i64 (((k : Nat) : Int)))]) w8
      have hB1z := hB1.size
      have hle : xs.length = ys.length := by omega
      refine w_seq fun K11 hK11 => ?_
      refine w_seq fun K12 hK12 => ?_
      refine w_region ?_
      refine wl_val (g_move (v := .int .i64 (((k : Nat) : Int))) rfl) rfl ?_
      refine wl_val (g_move (v := .slice a (xs.length) (c)) rfl) rfl ?_
      refine wl_val (g_len' (a := a) (l := (xs.length)) (c := c) SL22 rfl) rfl ?_
      refine wl_val (g_lss (a := ((k : Nat) : Int)) (b := ((xs.length : Nat) : Int)) rfl rfl) rfl ?_
      refine wl_nil ?_
      refine hK12 _ _ ?_
      refine w_cond_d (p := ((k : Nat) : Int) < ((xs.length : Nat) : Int)) rfl (fun h13 => ?_) (fun h13 => ?_)
      · refine w_skip ?_
        refine hK11 _ _ ?_
        refine w_seq fun K14 hK14 => ?_
        refine w_block ?_
        refine w_seq fun K15 hK15 => ?_
        refine w_draw (X := Ext) [] MIX (by decide +kernel) Ext.refl (fun _ _ _ => Ext.trans) (fun w16 hE17 => ?_)
        have hs18 := hE17.size
        have hB19 := Ext.below hB1 hE17 (by omega)
        have hz20 := hB19.size
        refine ⟨.slice a (xs.length) (c), fun w21 hX22 => od_plain rfl (by have hX22z := hX22.size; exact is_ext (g_move (v := .slice a (xs.length) (c)) rfl)), ?_⟩
        refine ⟨.int .i64 (((k : Nat) : Int)), fun w23 hX24 => od_plain rfl (by have hX24z := hX24.size; exact is_ext (g_move (v := .int .i64 (((k : Nat) : Int))) rfl)), ?_⟩
        refine ⟨.pointer (some ((adr a).add (k * 1))), fun w25 hX26 => od_plain rfl (by have hX26z := hX26.size; exact is_ext (g_index (a := a) (l := (xs.length)) (c := c) (i := ((k : Nat) : Int)) SL22 rfl rfl (Cells.intSome (i := ((k : Nat) : Int)) (Cells.ext (Cells.below hx hB19 (by omega)) hX26 (by omega)) (by omega) (by omega)) (by omega) (by omega))), ?_⟩
        refine ⟨.int .i64 (xs[k]!), fun w27 hX28 => od_plain rfl (by have hX28z := hX28.size; exact is_ext (g_load1 (q := (adr a).add (k * 1)) (v := .int .i64 (xs[k]!)) ON3 rfl (Cells.int (i := ((k : Nat) : Int)) (Cells.ext (Cells.below hx hB19 (by omega)) hX28 (by omega)) (by omega) (by omega)))), ?_⟩
        refine ⟨.slice b (ys.length) (d), fun w29 hX30 => od_plain rfl (by have hX30z := hX30.size; exact is_ext (g_move (v := .slice b (ys.length) (d)) rfl)), ?_⟩
        refine ⟨.int .i64 (((k : Nat) : Int)), fun w31 hX32 => od_plain rfl (by have hX32z := hX32.size; exact is_ext (g_move (v := .int .i64 (((k : Nat) : Int))) rfl)), ?_⟩
        refine ⟨.pointer (some ((adr b).add (k * 1))), fun w33 hX34 => od_plain rfl (by have hX34z := hX34.size; exact is_ext (g_index (a := b) (l := (ys.length)) (c := d) (i := ((k : Nat) : Int)) SL22 rfl rfl (Cells.intSome (i := ((k : Nat) : Int)) (Cells.ext (Cells.below hy hB19 (by omega)) hX34 (by omega)) (by omega) (by omega)) (by omega) (by omega))), ?_⟩
        refine ⟨.int .i64 (ys[k]!), fun w35 hX36 => od_plain rfl (by have hX36z := hX36.size; exact is_ext (g_load1 (q := (adr b).add (k * 1)) (v := .int .i64 (ys[k]!)) ON3 rfl (Cells.int (i := ((k : Nat) : Int)) (Cells.ext (Cells.below hy hB19 (by omega)) hX36 (by omega)) (by omega) (by omega)))), ?_⟩
        refine ⟨.bool (decide (xs[k]! ≠ ys[k]!)), fun w37 hX38 => od_plain rfl (by have hX38z := hX38.size; exact is_ext (g_neq (a := xs[k]!) (b := ys[k]!) rfl rfl)), ?_⟩
        intro w39 hX40
        have hs41 := hX40.size
        have hB42 := Ext.below hB19 hX40 (by omega)
        have hz43 := hB42.size
        refine hK15 _ _ ?_
        refine w_cond_d (p := xs[k]! ≠ ys[k]!) rfl (fun h44 => ?_) (fun h44 => ?_)
        · refine w_seq fun K45 hK45 => ?_
          refine w_region ?_
          refine wl_val (g_assign (v := .bool (false)) rfl) rfl ?_
          refine wl_nil ?_
          refine hK45 _ _ ?_
          refine w_ret ?_
          exact ret1 rfl (by decide) ⟨congrArg Value.bool (decide_eq_false (fun h => h44 (by rw [h]))).symm, toExt hB42⟩
        · refine w_skip ?_
          refine hK14 _ _ ?_
          refine w_region ?_
          refine wl_val (g_move (v := .int .i64 (((k : Nat) : Int))) rfl) rfl ?_
          refine wl_val (g_add (a := ((k : Nat) : Int)) (b := 1) rfl rfl ⟨by omega, by omega⟩) rfl ?_
          refine wl_val (g_assign (v := .int .i64 ((((k : Nat) : Int) + 1))) rfl) rfl ?_
          refine wl_nil ?_
          exact ⟨(k + 1), (by first | omega | (dsimp only; omega)), ⟨rfl, rfl, rfl, trivial⟩, ⟨by omega, by rw [take_snoc! xs k (by omega), take_snoc! ys k (by omega), ht, (Classical.not_not.1 h44)], hB42⟩⟩
      · refine w_exit ?_
        refine hK6 _ _ ?_
        refine w_seq fun K46 hK46 => ?_
        refine w_region ?_
        refine wl_val (g_assign (v := .bool (true)) rfl) rfl ?_
        refine wl_nil ?_
        refine hK46 _ _ ?_
        refine w_ret ?_
        exact ret1 rfl (by decide) ⟨congrArg Value.bool (decide_eq_true (all_eq hle ht (by omega))).symm, toExt hB1⟩
end Go.Proofs.Ytenoommpckddlaa
