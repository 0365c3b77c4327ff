/- The walks: the code does what its model says. Printed by a program (gen2.py). No statement of the claim stands here. -/
import Derived.Test.YtebfcpninegcgaaFacts2
import Derived.Test.YtebfcpninegcgaaSop
import Derived.Test.YtebfcpninegcgaaFacts
import Derived.Test.YtebfcpninegcgaaMH
import Derived.Test.YtebfcpninegcgaaWH1
namespace Go.Proofs.Ytebfcpninegcgaa
open Go Go.RowKit
set_option maxRecDepth 100000
theorem m_laws_FnRails_fn {w : World} {a0 : Option Addr} {n0 c0 : Nat} {p0 : List Byte} {Q : Bool → Prop} (hp0 : Vw w.heap.size w a0 n0 c0 p0) (hm : m_laws_FnRails p0 Q) :
    Fn Try.prog 4 #[.slice a0 n0 c0] w (fun v w' => ∃ (r0 : Bool), Q r0 ∧ v = .bool r0 ∧ Ext w w') := by
  unfold m_laws_FnRails at hm
  have hB0 := Below.refl w.heap.size w
  have hS0 : Sep w w.heap.size [] := Sep.nil (Nat.le_refl _)
  refine fn_of_wp Try.func4 rfl (by kernel_rfl) (Nat.le_of_ble_eq_true rfl) ?_
  refine w_seq fun K1 hK1 => ?_
  refine w_region ?_
  refine wl_val (g_assign (v := .bool false) rfl) rfl ?_
  refine wl_nil ?_
  refine hK1 _ _ ?_
  refine w_seq fun K2 hK2 => ?_
  refine w_seq fun K3 hK3 => ?_
  refine w_region ?_
  refine wl_val (g_move (v := .slice a0 n0 c0) rfl) rfl ?_
  refine wl_step rfl (g_call (vs := #[.slice a0 n0 c0]) CF14 (args1 rfl) (m_laws_big_fn ((hp0.bel hB0).up hS0) hm)) ?_
  rintro _ w4 ⟨r7, hm, rfl, hE5⟩
  have hB8 := hB0.trans (Ext.stp hE5 hS0.base)
  have hS9 := hS0.ext hE5
  refine wl_nil ?_
  refine hK3 _ _ ?_
  refine w_condI (p := r7 = true) (b := r7) rfl Iff.rfl (fun h10 => ?_) (fun h10 => ?_)
  · replace hm := hm.1 h10
    refine w_seq fun K11 hK11 => ?_
    refine w_region ?_
    refine wl_val (g_assign (v := .bool true) rfl) rfl ?_
    refine wl_nil ?_
    refine hK11 _ _ ?_
    refine w_ret ?_
    repeat first | with_reducible refine q_then ?_ | with_reducible refine q_block ?_
    exact ret1 rfl (by decide) ⟨_, hm, rfl, toExt hB8⟩
  · replace hm := hm.2 h10
    refine w_skip ?_
    refine hK2 _ _ ?_
    refine w_seq fun K12 hK12 => ?_
    refine w_region ?_
    refine wl_val (g_move (v := .slice a0 n0 c0) rfl) rfl ?_
    refine wl_step rfl (g_call (vs := #[.slice a0 n0 c0]) CF15 (args1 rfl) (m_spec_DrawStays_fn ((hp0.bel hB8).up hS9) hm)) ?_
    rintro _ w13 ⟨r16, a17, n18, c19, hm, rfl, hE14, hN15⟩
    have hS21 := hS9.call1 hE14 hN15
    have hB22 := hB8.trans (Ext.stp hE14 hS9.base)
    refine wl_val (g_assign (v := .slice a17 n18 c19) rfl) rfl ?_
    refine wl_nil ?_
    refine hK12 _ _ ?_
    refine w_seq fun K23 hK23 => ?_
    refine w_region ?_
    refine wl_val (g_move (v := .slice a17 n18 c19) rfl) rfl ?_
    refine wl_step rfl (g_call (vs := #[.slice a17 n18 c19]) CF16 (args1 rfl) (m_impl_MostAtOnce_fn (oS.vw hS21.g0) hm)) ?_
    rintro _ w24 ⟨r27, hm, rfl, hE25⟩
    have hB28 := hB22.trans (Ext.stp hE25 hS21.base)
    have hS29 := hS21.ext hE25
    refine wl_val (g_assign (v := .int .i64 r27) rfl) rfl ?_
    refine wl_nil ?_
    refine hK23 _ _ ?_
    refine w_seq fun K30 hK30 => ?_
    refine w_region ?_
    refine wl_val (g_move (v := .slice a17 n18 c19) rfl) rfl ?_
    refine wl_step rfl (g_call (vs := #[.slice a17 n18 c19]) CF8 (args1 rfl) (m_impl_RailsFor_fn (oS.vw hS29.g0) hm)) ?_
    rintro _ w31 ⟨r34, a35, n36, c37, hm, rfl, hE32, hN33⟩
    have hS39 := hS29.call1 hE32 hN33
    have hB40 := hB28.trans (Ext.stp hE32 hS29.base)
    refine wl_val (g_assign (v := .slice a35 n36 c37) rfl) rfl ?_
    refine wl_nil ?_
    refine hK30 _ _ ?_
    refine w_seq fun K41 hK41 => ?_
    refine w_seq fun K42 hK42 => ?_
    refine w_region ?_
    refine wl_val (g_move (v := .slice a35 n36 c37) rfl) rfl ?_
    refine wl_val (q_len SL24 rfl (Vw.len (oS.vw hS39.g0))) rfl ?_
    refine wl_val (g_move (v := .slice a17 n18 c19) rfl) rfl ?_
    refine wl_val (q_len SL26 rfl (Vw.len (oS.vw hS39.g1))) rfl ?_
    refine wl_val (g_neq (a := (r34.length : Int)) (b := (r16.length : Int)) rfl rfl) rfl ?_
    refine wl_val (g_move (v := .bool (decide ((r34.length : Int) ≠ (r16.length : Int)))) rfl) rfl ?_
    refine wl_guard (c := (decide ((r34.length : Int) ≠ (r16.length : Int))) = false) (val := .slice a35 n36 c37) (b := ((decide ((r34.length : Int) ≠ (r16.length : Int))) == false)) (gv_some rfl rfl rfl) beq_iff_eq (fun hc43 => ?_) ?_
    · have hcq0 : ¬ ((r34.length : Int) ≠ (r16.length : Int)) := (i_neg decide_eq_true_iff hc43)
      exact g_move (v := .slice a35 n36 c37) rfl
    obtain ⟨r45, hk46, hm⟩ := hm
    refine wl_guardE (X := Ext) (c := (decide ((r34.length : Int) ≠ (r16.length : Int))) = false) (val := .int .i64 r45) (Ext.refl _) (b := ((decide ((r34.length : Int) ≠ (r16.length : Int))) == false)) (gv_some rfl rfl rfl) beq_iff_eq (fun hc44 => ?_) (fun w47 hE48 => ?_)
    · have hcq0 : ¬ ((r34.length : Int) ≠ (r16.length : Int)) := (i_neg decide_eq_true_iff hc44)
      exact (g_call (vs := #[.slice a35 n36 c37]) CF17 (args1 (if_pos hc44)) ((m_impl_CountRails_fn (oS.vw hS39.g0) (hk46 hcq0)).mono fun _ _ ⟨_, h1, h2, h3⟩ => ⟨by rw [h2, h1], h3⟩))
    have hB49 := hB40.trans (Ext.stp hE48 hS39.base)
    have hS50 := hS39.ext hE48
    refine wl_guard (c := (decide ((r34.length : Int) ≠ (r16.length : Int))) = false) (val := .int .i64 r27) (b := ((decide ((r34.length : Int) ≠ (r16.length : Int))) == false)) (gv_some rfl rfl rfl) beq_iff_eq (fun hc51 => ?_) ?_
    · have hcq0 : ¬ ((r34.length : Int) ≠ (r16.length : Int)) := (i_neg decide_eq_true_iff hc51)
      exact g_move (v := .int .i64 r27) rfl
    refine wl_guard (c := (decide ((r34.length : Int) ≠ (r16.length : Int))) = false) (val := .bool (decide (r45 ≠ r27))) (b := ((decide ((r34.length : Int) ≠ (r16.length : Int))) == false)) (gv_some rfl rfl rfl) beq_iff_eq (fun hc52 => ?_) ?_
    · have hcq0 : ¬ ((r34.length : Int) ≠ (r16.length : Int)) := (i_neg decide_eq_true_iff hc52)
      exact g_neq (a := r45) (b := r27) (if_pos hc52) (if_pos hc52)
    refine wl_val (g_pick_or (b := (decide ((r34.length : Int) ≠ (r16.length : Int)))) (q := (decide (r45 ≠ r27))) rfl rfl) rfl ?_
    refine wl_nil ?_
    refine hK42 _ _ ?_
    refine w_condI (p := (((r34.length : Int) ≠ (r16.length : Int)) ∨ (r45 ≠ r27))) (b := ((decide ((r34.length : Int) ≠ (r16.length : Int))) || (decide (r45 ≠ r27)))) rfl (i_or decide_eq_true_iff decide_eq_true_iff) (fun h53 => ?_) (fun h53 => ?_)
    · replace hm := hm.1 h53
      refine w_seq fun K54 hK54 => ?_
      refine w_region ?_
      refine wl_val (g_assign (v := .bool false) rfl) rfl ?_
      refine wl_nil ?_
      refine hK54 _ _ ?_
      refine w_ret ?_
      repeat first | with_reducible refine q_then ?_ | with_reducible refine q_block ?_
      exact ret1 rfl (by decide) ⟨_, hm, rfl, toExt hB49⟩
    · replace hm := hm.2 h53
      refine w_skip ?_
      refine hK41 _ _ ?_
      refine w_cut (σ := Unit) (fun _ => [(3, .slice a17 n18 c19), (4, .int .i64 r27)]) (fun _ w' => m_laws_FnRails_K3 r16 r27 Q ∧ Below w.heap.size w w' ∧ Sep w' w.heap.size [oS 39 a17 n18 c19 (r16 : List Stay)]) ?_ ?_
      · refine w_seq fun K56 hK56 => ?_
        refine w_region ?_
        refine wl_val (g_assign (v := .int .i64 0) rfl) rfl ?_
        refine wl_nil ?_
        refine hK56 _ _ ?_
        refine w_block ?_
        have hS473 := hS50.f1
        obtain ⟨I474, μ475, h0476, hr477⟩ := hm
        refine w_for (σ := Int) (fun v472 => [(3, .slice a17 n18 c19), (4, .int .i64 r27), (5, .slice a35 n36 c37), (6, .int .i64 v472)]) (fun v472 w' => I474 v472 ∧ Below w.heap.size w w' ∧ Sep w' w.heap.size [oS 39 a17 n18 c19 (r16 : List Stay), oS 3 a35 n36 c37 (r34 : List Int)]) (fun v472 => μ475 v472) (0) ⟨rfl, rfl, rfl, rfl, trivial⟩ ⟨h0476, hB49, hS473⟩ ?_
        rintro v472 b_ w478 ⟨hi_, hB479, hS480⟩
        show Wp _ _ _ _ (upds b_ [(3, .slice a17 n18 c19), (4, .int .i64 r27), (5, .slice a35 n36 c37), (6, .int .i64 v472)]) w478
        have hm := hr477 v472 hi_
        refine w_seq fun K482 hK482 => ?_
        refine w_seq fun K483 hK483 => ?_
        refine w_region ?_
        refine wl_val (g_move (v := .int .i64 v472) rfl) rfl ?_
        refine wl_val (g_move (v := .slice a17 n18 c19) rfl) rfl ?_
        refine wl_val (q_len SL26 rfl (Vw.len (oS.vw hS480.g0))) rfl ?_
        refine wl_val (g_lss (a := v472) (b := (r16.length : Int)) rfl rfl) rfl ?_
        refine wl_nil ?_
        refine hK483 _ _ ?_
        refine w_condI (p := v472 < (r16.length : Int)) (b := (decide (v472 < (r16.length : Int)))) rfl decide_eq_true_iff (fun h484 => ?_) (fun h484 => ?_)
        · replace hm := hm.1 h484
          refine w_skip ?_
          refine hK482 _ _ ?_
          refine w_cut (σ := Unit) (fun _ => [(3, .slice a17 n18 c19), (4, .int .i64 r27), (5, .slice a35 n36 c37), (6, .int .i64 v472)]) (fun _ w' => m_laws_FnRails_K0 v472 (fun v472' => I474 v472' ∧ μ475 v472' < μ475 v472) ∧ Below w.heap.size w w' ∧ Sep w' w.heap.size [oS 39 a17 n18 c19 (r16 : List Stay), oS 3 a35 n36 c37 (r34 : List Int)]) ?_ ?_
          · refine w_block ?_
            refine w_seq fun K486 hK486 => ?_
            refine w_seq fun K487 hK487 => ?_
            refine w_region ?_
            refine wl_val (g_move (v := .slice a35 n36 c37) rfl) rfl ?_
            refine wl_val (g_move (v := .int .i64 v472) rfl) rfl ?_
            obtain ⟨hg488, hm⟩ := hm
            refine wl_val (q_index (i := v472) SL24 rfl rfl (oS.vw hS480.g1) hg488) rfl ?_
            refine wl_val (q_load (i := v472) (v := .int .i64 (r34[(Int.toNat v472)]!)) ON3 (oS.vw hS480.g1) hg488 rfl rfl) rfl ?_
            refine wl_val (g_lss (a := r34[(Int.toNat v472)]!) (b := 0) rfl rfl) rfl ?_
            refine wl_val (g_move (v := .bool (decide (r34[(Int.toNat v472)]! < 0))) rfl) rfl ?_
            refine wl_guard (c := (decide (r34[(Int.toNat v472)]! < 0)) = false) (val := .slice a35 n36 c37) (b := ((decide (r34[(Int.toNat v472)]! < 0)) == false)) (gv_some rfl rfl rfl) beq_iff_eq (fun hc489 => ?_) ?_
            · have hcq6 : ¬ (r34[(Int.toNat v472)]! < 0) := (i_neg decide_eq_true_iff hc489)
              exact g_move (v := .slice a35 n36 c37) rfl
            refine wl_guard (c := (decide (r34[(Int.toNat v472)]! < 0)) = false) (val := .int .i64 v472) (b := ((decide (r34[(Int.toNat v472)]! < 0)) == false)) (gv_some rfl rfl rfl) beq_iff_eq (fun hc490 => ?_) ?_
            · have hcq6 : ¬ (r34[(Int.toNat v472)]! < 0) := (i_neg decide_eq_true_iff hc490)
              exact g_move (v := .int .i64 v472) rfl
            obtain ⟨hg492, hm⟩ := hm
            refine wl_guard (c := (decide (r34[(Int.toNat v472)]! < 0)) = false) (val := .pointer (some ((adr a35).add ((Int.toNat v472) * El.m Int)))) (b := ((decide (r34[(Int.toNat v472)]! < 0)) == false)) (gv_some rfl rfl rfl) beq_iff_eq (fun hc491 => ?_) ?_
            · have hcq6 : ¬ (r34[(Int.toNat v472)]! < 0) := (i_neg decide_eq_true_iff hc491)
              exact q_index (i := v472) SL24 (if_pos hc491) (if_pos hc491) (oS.vw hS480.g1) (hg492 hcq6)
            refine wl_guard (c := (decide (r34[(Int.toNat v472)]! < 0)) = false) (val := .int .i64 (r34[(Int.toNat v472)]!)) (b := ((decide (r34[(Int.toNat v472)]! < 0)) == false)) (gv_some rfl rfl rfl) beq_iff_eq (fun hc493 => ?_) ?_
            · have hcq6 : ¬ (r34[(Int.toNat v472)]! < 0) := (i_neg decide_eq_true_iff hc493)
              exact q_load (i := v472) (v := .int .i64 (r34[(Int.toNat v472)]!)) ON3 (oS.vw hS480.g1) (hg492 hcq6) rfl (if_pos hc493)
            refine wl_guard (c := (decide (r34[(Int.toNat v472)]! < 0)) = false) (val := .int .i64 r27) (b := ((decide (r34[(Int.toNat v472)]! < 0)) == false)) (gv_some rfl rfl rfl) beq_iff_eq (fun hc494 => ?_) ?_
            · have hcq6 : ¬ (r34[(Int.toNat v472)]! < 0) := (i_neg decide_eq_true_iff hc494)
              exact g_move (v := .int .i64 r27) rfl
            refine wl_guard (c := (decide (r34[(Int.toNat v472)]! < 0)) = false) (val := .bool (decide (r34[(Int.toNat v472)]! ≥ r27))) (b := ((decide (r34[(Int.toNat v472)]! < 0)) == false)) (gv_some rfl rfl rfl) beq_iff_eq (fun hc495 => ?_) ?_
            · have hcq6 : ¬ (r34[(Int.toNat v472)]! < 0) := (i_neg decide_eq_true_iff hc495)
              exact g_geq (a := r34[(Int.toNat v472)]!) (b := r27) (if_pos hc495) (if_pos hc495)
            refine wl_val (g_pick_or (b := (decide (r34[(Int.toNat v472)]! < 0))) (q := (decide (r34[(Int.toNat v472)]! ≥ r27))) rfl rfl) rfl ?_
            refine wl_nil ?_
            refine hK487 _ _ ?_
            refine w_condI (p := ((r34[(Int.toNat v472)]! < 0) ∨ (r34[(Int.toNat v472)]! ≥ r27))) (b := ((decide (r34[(Int.toNat v472)]! < 0)) || (decide (r34[(Int.toNat v472)]! ≥ r27)))) rfl (i_or decide_eq_true_iff decide_eq_true_iff) (fun h496 => ?_) (fun h496 => ?_)
            · replace hm := hm.1 h496
              refine w_seq fun K497 hK497 => ?_
              refine w_region ?_
              refine wl_val (g_assign (v := .bool false) rfl) rfl ?_
              refine wl_nil ?_
              refine hK497 _ _ ?_
              refine w_ret ?_
              repeat first | with_reducible refine q_then ?_ | with_reducible refine q_block ?_
              exact ret1 rfl (by decide) ⟨_, hm, rfl, toExt hB479⟩
            · replace hm := hm.2 h496
              refine w_skip ?_
              refine hK486 _ _ ?_
              refine w_seq fun K498 hK498 => ?_
              refine w_region ?_
              refine wl_val (g_assign (v := .int .i64 0) rfl) rfl ?_
              refine wl_nil ?_
              refine hK498 _ _ ?_
              refine w_block ?_
              obtain ⟨I500, μ501, h0502, hr503⟩ := hm
              refine w_for (σ := Int) (fun v499 => [(3, .slice a17 n18 c19), (4, .int .i64 r27), (5, .slice a35 n36 c37), (6, .int .i64 v472), (7, .int .i64 v499)]) (fun v499 w' => I500 v499 ∧ Below w.heap.size w w' ∧ Sep w' w.heap.size [oS 39 a17 n18 c19 (r16 : List Stay), oS 3 a35 n36 c37 (r34 : List Int)]) (fun v499 => μ501 v499) (0) ⟨rfl, rfl, rfl, rfl, rfl, trivial⟩ ⟨h0502, hB479, hS480⟩ ?_
              rintro v499 b_ w504 ⟨hi_, hB505, hS506⟩
              show Wp _ _ _ _ (upds b_ [(3, .slice a17 n18 c19), (4, .int .i64 r27), (5, .slice a35 n36 c37), (6, .int .i64 v472), (7, .int .i64 v499)]) w504
              have hm := hr503 v499 hi_
              refine w_seq fun K508 hK508 => ?_
              refine w_seq fun K509 hK509 => ?_
              refine w_region ?_
              refine wl_val (g_move (v := .int .i64 v499) rfl) rfl ?_
              refine wl_val (g_move (v := .int .i64 v472) rfl) rfl ?_
              refine wl_val (g_lss (a := v499) (b := v472) rfl rfl) rfl ?_
              refine wl_nil ?_
              refine hK509 _ _ ?_
              refine w_condI (p := v499 < v472) (b := (decide (v499 < v472))) rfl decide_eq_true_iff (fun h510 => ?_) (fun h510 => ?_)
              · replace hm := hm.1 h510
                refine w_skip ?_
                refine hK508 _ _ ?_
                refine w_seq fun K511 hK511 => ?_
                refine w_block ?_
                refine w_seq fun K512 hK512 => ?_
                refine w_draw (X := Ext) (Y := Ext) [] MIX (by decide +kernel) rfl Ext.refl (fun _ _ _ => Ext.trans) (fun _ _ _ => Chg.trans) (fun _ _ h => Ext.chg h _) (fun w513 hE514 => ?_)
                have hB515 := hB505.trans (Ext.stp hE514 hS506.base)
                have hS516 := hS506.ext hE514
                refine ⟨.slice a35 n36 c37, fun w517 hX518 => od_plain rfl (by have hS519 := hS516.ext hX518; have hB520 := hB515.trans (Ext.stp hX518 hS516.base); exact is_ext (g_move (v := .slice a35 n36 c37) rfl)), ?_⟩
                refine ⟨.int .i64 v472, fun w521 hX522 => od_plain rfl (by have hS523 := hS516.ext hX522; have hB524 := hB515.trans (Ext.stp hX522 hS516.base); exact is_ext (g_move (v := .int .i64 v472) rfl)), ?_⟩
                obtain ⟨hg529, hm⟩ := hm
                refine ⟨.pointer (some ((adr a35).add ((Int.toNat v472) * El.m Int))), fun w525 hX526 => od_plain rfl (by have hS527 := hS516.ext hX526; have hB528 := hB515.trans (Ext.stp hX526 hS516.base); exact is_ext (q_index (i := v472) SL24 rfl rfl (oS.vw hS527.g1) hg529)), ?_⟩
                refine ⟨.int .i64 (r34[(Int.toNat v472)]!), fun w530 hX531 => od_plain rfl (by have hS532 := hS516.ext hX531; have hB533 := hB515.trans (Ext.stp hX531 hS516.base); exact is_ext (q_load (i := v472) (v := .int .i64 (r34[(Int.toNat v472)]!)) ON3 (oS.vw hS532.g1) hg529 rfl rfl)), ?_⟩
                refine ⟨.slice a35 n36 c37, fun w534 hX535 => od_plain rfl (by have hS536 := hS516.ext hX535; have hB537 := hB515.trans (Ext.stp hX535 hS516.base); exact is_ext (g_move (v := .slice a35 n36 c37) rfl)), ?_⟩
                refine ⟨.int .i64 v499, fun w538 hX539 => od_plain rfl (by have hS540 := hS516.ext hX539; have hB541 := hB515.trans (Ext.stp hX539 hS516.base); exact is_ext (g_move (v := .int .i64 v499) rfl)), ?_⟩
                obtain ⟨hg546, hm⟩ := hm
                refine ⟨.pointer (some ((adr a35).add ((Int.toNat v499) * El.m Int))), fun w542 hX543 => od_plain rfl (by have hS544 := hS516.ext hX543; have hB545 := hB515.trans (Ext.stp hX543 hS516.base); exact is_ext (q_index (i := v499) SL24 rfl rfl (oS.vw hS544.g1) hg546)), ?_⟩
                refine ⟨.int .i64 (r34[(Int.toNat v499)]!), fun w547 hX548 => od_plain rfl (by have hS549 := hS516.ext hX548; have hB550 := hB515.trans (Ext.stp hX548 hS516.base); exact is_ext (q_load (i := v499) (v := .int .i64 (r34[(Int.toNat v499)]!)) ON3 (oS.vw hS549.g1) hg546 rfl rfl)), ?_⟩
                refine ⟨.bool (decide (r34[(Int.toNat v472)]! = r34[(Int.toNat v499)]!)), fun w551 hX552 => od_plain rfl (by have hS553 := hS516.ext hX552; have hB554 := hB515.trans (Ext.stp hX552 hS516.base); exact is_ext (g_eql (a := r34[(Int.toNat v472)]!) (b := r34[(Int.toNat v499)]!) rfl rfl)), ?_⟩
                refine ⟨.bool (decide (r34[(Int.toNat v472)]! = r34[(Int.toNat v499)]!)), fun w555 hX556 => od_plain rfl (by have hS557 := hS516.ext hX556; have hB558 := hB515.trans (Ext.stp hX556 hS516.base); exact is_ext (g_move (v := .bool (decide (r34[(Int.toNat v472)]! = r34[(Int.toNat v499)]!))) rfl)), ?_⟩
                refine ⟨if (decide (r34[(Int.toNat v472)]! = r34[(Int.toNat v499)]!)) = true then .slice a17 n18 c19 else undef, fun w559 hX560 => od_guard (c := (decide (r34[(Int.toNat v472)]! = r34[(Int.toNat v499)]!)) = true) (val := .slice a17 n18 c19) (b := ((decide (r34[(Int.toNat v472)]! = r34[(Int.toNat v499)]!)) == true)) (gv_some rfl rfl rfl) beq_iff_eq (fun hc563 => ?_), ?_⟩
                · have hS561 := hS516.ext hX560
                  have hB562 := hB515.trans (Ext.stp hX560 hS516.base)
                  have hcq7 : r34[(Int.toNat v472)]! = r34[(Int.toNat v499)]! := (decide_eq_true_iff.mp hc563)
                  exact is_ext (g_move (v := .slice a17 n18 c19) rfl)
                refine ⟨if (decide (r34[(Int.toNat v472)]! = r34[(Int.toNat v499)]!)) = true then .int .i64 v472 else undef, fun w564 hX565 => od_guard (c := (decide (r34[(Int.toNat v472)]! = r34[(Int.toNat v499)]!)) = true) (val := .int .i64 v472) (b := ((decide (r34[(Int.toNat v472)]! = r34[(Int.toNat v499)]!)) == true)) (gv_some rfl rfl rfl) beq_iff_eq (fun hc568 => ?_), ?_⟩
                · have hS566 := hS516.ext hX565
                  have hB567 := hB515.trans (Ext.stp hX565 hS516.base)
                  have hcq7 : r34[(Int.toNat v472)]! = r34[(Int.toNat v499)]! := (decide_eq_true_iff.mp hc568)
                  exact is_ext (g_move (v := .int .i64 v472) rfl)
                obtain ⟨hg574, hm⟩ := hm
                refine ⟨if (decide (r34[(Int.toNat v472)]! = r34[(Int.toNat v499)]!)) = true then .pointer (some ((adr a17).add ((Int.toNat v472) * El.m Stay))) else undef, fun w569 hX570 => od_guard (c := (decide (r34[(Int.toNat v472)]! = r34[(Int.toNat v499)]!)) = true) (val := .pointer (some ((adr a17).add ((Int.toNat v472) * El.m Stay)))) (b := ((decide (r34[(Int.toNat v472)]! = r34[(Int.toNat v499)]!)) == true)) (gv_some rfl rfl rfl) beq_iff_eq (fun hc573 => ?_), ?_⟩
                · have hS571 := hS516.ext hX570
                  have hB572 := hB515.trans (Ext.stp hX570 hS516.base)
                  have hcq7 : r34[(Int.toNat v472)]! = r34[(Int.toNat v499)]! := (decide_eq_true_iff.mp hc573)
                  exact is_ext (q_index (i := v472) SL26 (if_pos hc573) (if_pos hc573) (oS.vw hS571.g0) (hg574 hcq7))
                refine ⟨if (decide (r34[(Int.toNat v472)]! = r34[(Int.toNat v499)]!)) = true then .pointer (some (((adr a17).add ((Int.toNat v472) * El.m Stay)).add 1)) else undef, fun w575 hX576 => od_guard (c := (decide (r34[(Int.toNat v472)]! = r34[(Int.toNat v499)]!)) = true) (val := .pointer (some (((adr a17).add ((Int.toNat v472) * El.m Stay)).add 1))) (b := ((decide (r34[(Int.toNat v472)]! = r34[(Int.toNat v499)]!)) == true)) (gv_some rfl rfl rfl) beq_iff_eq (fun hc579 => ?_), ?_⟩
                · have hS577 := hS516.ext hX576
                  have hB578 := hB515.trans (Ext.stp hX576 hS516.base)
                  have hcq7 : r34[(Int.toNat v472)]! = r34[(Int.toNat v499)]! := (decide_eq_true_iff.mp hc579)
                  exact is_ext (g_fieldAddr (q := (adr a17).add ((Int.toNat v472) * El.m Stay)) FL39_1 ON3 (if_pos hc579))
                refine ⟨if (decide (r34[(Int.toNat v472)]! = r34[(Int.toNat v499)]!)) = true then .int .i64 (r16[(Int.toNat v472)]!.2.1) else undef, fun w580 hX581 => od_guard (c := (decide (r34[(Int.toNat v472)]! = r34[(Int.toNat v499)]!)) = true) (val := .int .i64 (r16[(Int.toNat v472)]!.2.1)) (b := ((decide (r34[(Int.toNat v472)]! = r34[(Int.toNat v499)]!)) == true)) (gv_some rfl rfl rfl) beq_iff_eq (fun hc584 => ?_), ?_⟩
                · have hS582 := hS516.ext hX581
                  have hB583 := hB515.trans (Ext.stp hX581 hS516.base)
                  have hcq7 : r34[(Int.toNat v472)]! = r34[(Int.toNat v499)]! := (decide_eq_true_iff.mp hc584)
                  exact is_ext (q_loadF (i := v472) (j := 1) (v := .int .i64 (r16[(Int.toNat v472)]!.2.1)) ON3 (oS.vw hS582.g0) (hg574 hcq7) rfl (if_pos hc584))
                refine ⟨if (decide (r34[(Int.toNat v472)]! = r34[(Int.toNat v499)]!)) = true then .slice a17 n18 c19 else undef, fun w585 hX586 => od_guard (c := (decide (r34[(Int.toNat v472)]! = r34[(Int.toNat v499)]!)) = true) (val := .slice a17 n18 c19) (b := ((decide (r34[(Int.toNat v472)]! = r34[(Int.toNat v499)]!)) == true)) (gv_some rfl rfl rfl) beq_iff_eq (fun hc589 => ?_), ?_⟩
                · have hS587 := hS516.ext hX586
                  have hB588 := hB515.trans (Ext.stp hX586 hS516.base)
                  have hcq7 : r34[(Int.toNat v472)]! = r34[(Int.toNat v499)]! := (decide_eq_true_iff.mp hc589)
                  exact is_ext (g_move (v := .slice a17 n18 c19) rfl)
                refine ⟨if (decide (r34[(Int.toNat v472)]! = r34[(Int.toNat v499)]!)) = true then .int .i64 v499 else undef, fun w590 hX591 => od_guard (c := (decide (r34[(Int.toNat v472)]! = r34[(Int.toNat v499)]!)) = true) (val := .int .i64 v499) (b := ((decide (r34[(Int.toNat v472)]! = r34[(Int.toNat v499)]!)) == true)) (gv_some rfl rfl rfl) beq_iff_eq (fun hc594 => ?_), ?_⟩
                · have hS592 := hS516.ext hX591
                  have hB593 := hB515.trans (Ext.stp hX591 hS516.base)
                  have hcq7 : r34[(Int.toNat v472)]! = r34[(Int.toNat v499)]! := (decide_eq_true_iff.mp hc594)
                  exact is_ext (g_move (v := .int .i64 v499) rfl)
                obtain ⟨hg600, hm⟩ := hm
                refine ⟨if (decide (r34[(Int.toNat v472)]! = r34[(Int.toNat v499)]!)) = true then .pointer (some ((adr a17).add ((Int.toNat v499) * El.m Stay))) else undef, fun w595 hX596 => od_guard (c := (decide (r34[(Int.toNat v472)]! = r34[(Int.toNat v499)]!)) = true) (val := .pointer (some ((adr a17).add ((Int.toNat v499) * El.m Stay)))) (b := ((decide (r34[(Int.toNat v472)]! = r34[(Int.toNat v499)]!)) == true)) (gv_some rfl rfl rfl) beq_iff_eq (fun hc599 => ?_), ?_⟩
                · have hS597 := hS516.ext hX596
                  have hB598 := hB515.trans (Ext.stp hX596 hS516.base)
                  have hcq7 : r34[(Int.toNat v472)]! = r34[(Int.toNat v499)]! := (decide_eq_true_iff.mp hc599)
                  exact is_ext (q_index (i := v499) SL26 (if_pos hc599) (if_pos hc599) (oS.vw hS597.g0) (hg600 hcq7))
                refine ⟨if (decide (r34[(Int.toNat v472)]! = r34[(Int.toNat v499)]!)) = true then .pointer (some (((adr a17).add ((Int.toNat v499) * El.m Stay)).add 2)) else undef, fun w601 hX602 => od_guard (c := (decide (r34[(Int.toNat v472)]! = r34[(Int.toNat v499)]!)) = true) (val := .pointer (some (((adr a17).add ((Int.toNat v499) * El.m Stay)).add 2))) (b := ((decide (r34[(Int.toNat v472)]! = r34[(Int.toNat v499)]!)) == true)) (gv_some rfl rfl rfl) beq_iff_eq (fun hc605 => ?_), ?_⟩
                · have hS603 := hS516.ext hX602
                  have hB604 := hB515.trans (Ext.stp hX602 hS516.base)
                  have hcq7 : r34[(Int.toNat v472)]! = r34[(Int.toNat v499)]! := (decide_eq_true_iff.mp hc605)
                  exact is_ext (g_fieldAddr (q := (adr a17).add ((Int.toNat v499) * El.m Stay)) FL39_2 ON3 (if_pos hc605))
                refine ⟨if (decide (r34[(Int.toNat v472)]! = r34[(Int.toNat v499)]!)) = true then .int .i64 (r16[(Int.toNat v499)]!.2.2) else undef, fun w606 hX607 => od_guard (c := (decide (r34[(Int.toNat v472)]! = r34[(Int.toNat v499)]!)) = true) (val := .int .i64 (r16[(Int.toNat v499)]!.2.2)) (b := ((decide (r34[(Int.toNat v472)]! = r34[(Int.toNat v499)]!)) == true)) (gv_some rfl rfl rfl) beq_iff_eq (fun hc610 => ?_), ?_⟩
                · have hS608 := hS516.ext hX607
                  have hB609 := hB515.trans (Ext.stp hX607 hS516.base)
                  have hcq7 : r34[(Int.toNat v472)]! = r34[(Int.toNat v499)]! := (decide_eq_true_iff.mp hc610)
                  exact is_ext (q_loadF (i := v499) (j := 2) (v := .int .i64 (r16[(Int.toNat v499)]!.2.2)) ON3 (oS.vw hS608.g0) (hg600 hcq7) rfl (if_pos hc610))
                refine ⟨if (decide (r34[(Int.toNat v472)]! = r34[(Int.toNat v499)]!)) = true then .bool (decide (r16[(Int.toNat v472)]!.2.1 < r16[(Int.toNat v499)]!.2.2)) else undef, fun w611 hX612 => od_guard (c := (decide (r34[(Int.toNat v472)]! = r34[(Int.toNat v499)]!)) = true) (val := .bool (decide (r16[(Int.toNat v472)]!.2.1 < r16[(Int.toNat v499)]!.2.2))) (b := ((decide (r34[(Int.toNat v472)]! = r34[(Int.toNat v499)]!)) == true)) (gv_some rfl rfl rfl) beq_iff_eq (fun hc615 => ?_), ?_⟩
                · have hS613 := hS516.ext hX612
                  have hB614 := hB515.trans (Ext.stp hX612 hS516.base)
                  have hcq7 : r34[(Int.toNat v472)]! = r34[(Int.toNat v499)]! := (decide_eq_true_iff.mp hc615)
                  exact is_ext (g_lss (a := r16[(Int.toNat v472)]!.2.1) (b := r16[(Int.toNat v499)]!.2.2) (if_pos hc615) (if_pos hc615))
                refine ⟨.bool ((decide (r34[(Int.toNat v472)]! = r34[(Int.toNat v499)]!)) && (decide (r16[(Int.toNat v472)]!.2.1 < r16[(Int.toNat v499)]!.2.2))), fun w616 hX617 => od_plain rfl (by have hS618 := hS516.ext hX617; have hB619 := hB515.trans (Ext.stp hX617 hS516.base); exact is_ext (g_pick_and (b := (decide (r34[(Int.toNat v472)]! = r34[(Int.toNat v499)]!))) (q := (decide (r16[(Int.toNat v472)]!.2.1 < r16[(Int.toNat v499)]!.2.2))) rfl rfl)), ?_⟩
                refine ⟨.bool ((decide (r34[(Int.toNat v472)]! = r34[(Int.toNat v499)]!)) && (decide (r16[(Int.toNat v472)]!.2.1 < r16[(Int.toNat v499)]!.2.2))), fun w620 hX621 => od_plain rfl (by have hS622 := hS516.ext hX621; have hB623 := hB515.trans (Ext.stp hX621 hS516.base); exact is_ext (g_move (v := .bool ((decide (r34[(Int.toNat v472)]! = r34[(Int.toNat v499)]!)) && (decide (r16[(Int.toNat v472)]!.2.1 < r16[(Int.toNat v499)]!.2.2)))) rfl)), ?_⟩
                refine ⟨if ((decide (r34[(Int.toNat v472)]! = r34[(Int.toNat v499)]!)) && (decide (r16[(Int.toNat v472)]!.2.1 < r16[(Int.toNat v499)]!.2.2))) = true then .slice a17 n18 c19 else undef, fun w624 hX625 => od_guard (c := ((decide (r34[(Int.toNat v472)]! = r34[(Int.toNat v499)]!)) && (decide (r16[(Int.toNat v472)]!.2.1 < r16[(Int.toNat v499)]!.2.2))) = true) (val := .slice a17 n18 c19) (b := (((decide (r34[(Int.toNat v472)]! = r34[(Int.toNat v499)]!)) && (decide (r16[(Int.toNat v472)]!.2.1 < r16[(Int.toNat v499)]!.2.2))) == true)) (gv_some rfl rfl rfl) beq_iff_eq (fun hc628 => ?_), ?_⟩
                · have hS626 := hS516.ext hX625
                  have hB627 := hB515.trans (Ext.stp hX625 hS516.base)
                  have hcq8 : ((r34[(Int.toNat v472)]! = r34[(Int.toNat v499)]!) ∧ (r16[(Int.toNat v472)]!.2.1 < r16[(Int.toNat v499)]!.2.2)) := ((i_and decide_eq_true_iff decide_eq_true_iff).mp hc628)
                  exact is_ext (g_move (v := .slice a17 n18 c19) rfl)
                refine ⟨if ((decide (r34[(Int.toNat v472)]! = r34[(Int.toNat v499)]!)) && (decide (r16[(Int.toNat v472)]!.2.1 < r16[(Int.toNat v499)]!.2.2))) = true then .int .i64 v499 else undef, fun w629 hX630 => od_guard (c := ((decide (r34[(Int.toNat v472)]! = r34[(Int.toNat v499)]!)) && (decide (r16[(Int.toNat v472)]!.2.1 < r16[(Int.toNat v499)]!.2.2))) = true) (val := .int .i64 v499) (b := (((decide (r34[(Int.toNat v472)]! = r34[(Int.toNat v499)]!)) && (decide (r16[(Int.toNat v472)]!.2.1 < r16[(Int.toNat v499)]!.2.2))) == true)) (gv_some rfl rfl rfl) beq_iff_eq (fun hc633 => ?_), ?_⟩
                · have hS631 := hS516.ext hX630
                  have hB632 := hB515.trans (Ext.stp hX630 hS516.base)
                  have hcq8 : ((r34[(Int.toNat v472)]! = r34[(Int.toNat v499)]!) ∧ (r16[(Int.toNat v472)]!.2.1 < r16[(Int.toNat v499)]!.2.2)) := ((i_and decide_eq_true_iff decide_eq_true_iff).mp hc633)
                  exact is_ext (g_move (v := .int .i64 v499) rfl)
                obtain ⟨hg639, hm⟩ := hm
                refine ⟨if ((decide (r34[(Int.toNat v472)]! = r34[(Int.toNat v499)]!)) && (decide (r16[(Int.toNat v472)]!.2.1 < r16[(Int.toNat v499)]!.2.2))) = true then .pointer (some ((adr a17).add ((Int.toNat v499) * El.m Stay))) else undef, fun w634 hX635 => od_guard (c := ((decide (r34[(Int.toNat v472)]! = r34[(Int.toNat v499)]!)) && (decide (r16[(Int.toNat v472)]!.2.1 < r16[(Int.toNat v499)]!.2.2))) = true) (val := .pointer (some ((adr a17).add ((Int.toNat v499) * El.m Stay)))) (b := (((decide (r34[(Int.toNat v472)]! = r34[(Int.toNat v499)]!)) && (decide (r16[(Int.toNat v472)]!.2.1 < r16[(Int.toNat v499)]!.2.2))) == true)) (gv_some rfl rfl rfl) beq_iff_eq (fun hc638 => ?_), ?_⟩
                · have hS636 := hS516.ext hX635
                  have hB637 := hB515.trans (Ext.stp hX635 hS516.base)
                  have hcq8 : ((r34[(Int.toNat v472)]! = r34[(Int.toNat v499)]!) ∧ (r16[(Int.toNat v472)]!.2.1 < r16[(Int.toNat v499)]!.2.2)) := ((i_and decide_eq_true_iff decide_eq_true_iff).mp hc638)
                  exact is_ext (q_index (i := v499) SL26 (if_pos hc638) (if_pos hc638) (oS.vw hS636.g0) (hg639 hcq8))
                refine ⟨if ((decide (r34[(Int.toNat v472)]! = r34[(Int.toNat v499)]!)) && (decide (r16[(Int.toNat v472)]!.2.1 < r16[(Int.toNat v499)]!.2.2))) = true then .pointer (some (((adr a17).add ((Int.toNat v499) * El.m Stay)).add 1)) else undef, fun w640 hX641 => od_guard (c := ((decide (r34[(Int.toNat v472)]! = r34[(Int.toNat v499)]!)) && (decide (r16[(Int.toNat v472)]!.2.1 < r16[(Int.toNat v499)]!.2.2))) = true) (val := .pointer (some (((adr a17).add ((Int.toNat v499) * El.m Stay)).add 1))) (b := (((decide (r34[(Int.toNat v472)]! = r34[(Int.toNat v499)]!)) && (decide (r16[(Int.toNat v472)]!.2.1 < r16[(Int.toNat v499)]!.2.2))) == true)) (gv_some rfl rfl rfl) beq_iff_eq (fun hc644 => ?_), ?_⟩
                · have hS642 := hS516.ext hX641
                  have hB643 := hB515.trans (Ext.stp hX641 hS516.base)
                  have hcq8 : ((r34[(Int.toNat v472)]! = r34[(Int.toNat v499)]!) ∧ (r16[(Int.toNat v472)]!.2.1 < r16[(Int.toNat v499)]!.2.2)) := ((i_and decide_eq_true_iff decide_eq_true_iff).mp hc644)
                  exact is_ext (g_fieldAddr (q := (adr a17).add ((Int.toNat v499) * El.m Stay)) FL39_1 ON3 (if_pos hc644))
                refine ⟨if ((decide (r34[(Int.toNat v472)]! = r34[(Int.toNat v499)]!)) && (decide (r16[(Int.toNat v472)]!.2.1 < r16[(Int.toNat v499)]!.2.2))) = true then .int .i64 (r16[(Int.toNat v499)]!.2.1) else undef, fun w645 hX646 => od_guard (c := ((decide (r34[(Int.toNat v472)]! = r34[(Int.toNat v499)]!)) && (decide (r16[(Int.toNat v472)]!.2.1 < r16[(Int.toNat v499)]!.2.2))) = true) (val := .int .i64 (r16[(Int.toNat v499)]!.2.1)) (b := (((decide (r34[(Int.toNat v472)]! = r34[(Int.toNat v499)]!)) && (decide (r16[(Int.toNat v472)]!.2.1 < r16[(Int.toNat v499)]!.2.2))) == true)) (gv_some rfl rfl rfl) beq_iff_eq (fun hc649 => ?_), ?_⟩
                · have hS647 := hS516.ext hX646
                  have hB648 := hB515.trans (Ext.stp hX646 hS516.base)
                  have hcq8 : ((r34[(Int.toNat v472)]! = r34[(Int.toNat v499)]!) ∧ (r16[(Int.toNat v472)]!.2.1 < r16[(Int.toNat v499)]!.2.2)) := ((i_and decide_eq_true_iff decide_eq_true_iff).mp hc649)
                  exact is_ext (q_loadF (i := v499) (j := 1) (v := .int .i64 (r16[(Int.toNat v499)]!.2.1)) ON3 (oS.vw hS647.g0) (hg639 hcq8) rfl (if_pos hc649))
                refine ⟨if ((decide (r34[(Int.toNat v472)]! = r34[(Int.toNat v499)]!)) && (decide (r16[(Int.toNat v472)]!.2.1 < r16[(Int.toNat v499)]!.2.2))) = true then .slice a17 n18 c19 else undef, fun w650 hX651 => od_guard (c := ((decide (r34[(Int.toNat v472)]! = r34[(Int.toNat v499)]!)) && (decide (r16[(Int.toNat v472)]!.2.1 < r16[(Int.toNat v499)]!.2.2))) = true) (val := .slice a17 n18 c19) (b := (((decide (r34[(Int.toNat v472)]! = r34[(Int.toNat v499)]!)) && (decide (r16[(Int.toNat v472)]!.2.1 < r16[(Int.toNat v499)]!.2.2))) == true)) (gv_some rfl rfl rfl) beq_iff_eq (fun hc654 => ?_), ?_⟩
                · have hS652 := hS516.ext hX651
                  have hB653 := hB515.trans (Ext.stp hX651 hS516.base)
                  have hcq8 : ((r34[(Int.toNat v472)]! = r34[(Int.toNat v499)]!) ∧ (r16[(Int.toNat v472)]!.2.1 < r16[(Int.toNat v499)]!.2.2)) := ((i_and decide_eq_true_iff decide_eq_true_iff).mp hc654)
                  exact is_ext (g_move (v := .slice a17 n18 c19) rfl)
                refine ⟨if ((decide (r34[(Int.toNat v472)]! = r34[(Int.toNat v499)]!)) && (decide (r16[(Int.toNat v472)]!.2.1 < r16[(Int.toNat v499)]!.2.2))) = true then .int .i64 v472 else undef, fun w655 hX656 => od_guard (c := ((decide (r34[(Int.toNat v472)]! = r34[(Int.toNat v499)]!)) && (decide (r16[(Int.toNat v472)]!.2.1 < r16[(Int.toNat v499)]!.2.2))) = true) (val := .int .i64 v472) (b := (((decide (r34[(Int.toNat v472)]! = r34[(Int.toNat v499)]!)) && (decide (r16[(Int.toNat v472)]!.2.1 < r16[(Int.toNat v499)]!.2.2))) == true)) (gv_some rfl rfl rfl) beq_iff_eq (fun hc659 => ?_), ?_⟩
                · have hS657 := hS516.ext hX656
                  have hB658 := hB515.trans (Ext.stp hX656 hS516.base)
                  have hcq8 : ((r34[(Int.toNat v472)]! = r34[(Int.toNat v499)]!) ∧ (r16[(Int.toNat v472)]!.2.1 < r16[(Int.toNat v499)]!.2.2)) := ((i_and decide_eq_true_iff decide_eq_true_iff).mp hc659)
                  exact is_ext (g_move (v := .int .i64 v472) rfl)
                obtain ⟨hg665, hm⟩ := hm
                refine ⟨if ((decide (r34[(Int.toNat v472)]! = r34[(Int.toNat v499)]!)) && (decide (r16[(Int.toNat v472)]!.2.1 < r16[(Int.toNat v499)]!.2.2))) = true then .pointer (some ((adr a17).add ((Int.toNat v472) * El.m Stay))) else undef, fun w660 hX661 => od_guard (c := ((decide (r34[(Int.toNat v472)]! = r34[(Int.toNat v499)]!)) && (decide (r16[(Int.toNat v472)]!.2.1 < r16[(Int.toNat v499)]!.2.2))) = true) (val := .pointer (some ((adr a17).add ((Int.toNat v472) * El.m Stay)))) (b := (((decide (r34[(Int.toNat v472)]! = r34[(Int.toNat v499)]!)) && (decide (r16[(Int.toNat v472)]!.2.1 < r16[(Int.toNat v499)]!.2.2))) == true)) (gv_some rfl rfl rfl) beq_iff_eq (fun hc664 => ?_), ?_⟩
                · have hS662 := hS516.ext hX661
                  have hB663 := hB515.trans (Ext.stp hX661 hS516.base)
                  have hcq8 : ((r34[(Int.toNat v472)]! = r34[(Int.toNat v499)]!) ∧ (r16[(Int.toNat v472)]!.2.1 < r16[(Int.toNat v499)]!.2.2)) := ((i_and decide_eq_true_iff decide_eq_true_iff).mp hc664)
                  exact is_ext (q_index (i := v472) SL26 (if_pos hc664) (if_pos hc664) (oS.vw hS662.g0) (hg665 hcq8))
                refine ⟨if ((decide (r34[(Int.toNat v472)]! = r34[(Int.toNat v499)]!)) && (decide (r16[(Int.toNat v472)]!.2.1 < r16[(Int.toNat v499)]!.2.2))) = true then .pointer (some (((adr a17).add ((Int.toNat v472) * El.m Stay)).add 2)) else undef, fun w666 hX667 => od_guard (c := ((decide (r34[(Int.toNat v472)]! = r34[(Int.toNat v499)]!)) && (decide (r16[(Int.toNat v472)]!.2.1 < r16[(Int.toNat v499)]!.2.2))) = true) (val := .pointer (some (((adr a17).add ((Int.toNat v472) * El.m Stay)).add 2))) (b := (((decide (r34[(Int.toNat v472)]! = r34[(Int.toNat v499)]!)) && (decide (r16[(Int.toNat v472)]!.2.1 < r16[(Int.toNat v499)]!.2.2))) == true)) (gv_some rfl rfl rfl) beq_iff_eq (fun hc670 => ?_), ?_⟩
                · have hS668 := hS516.ext hX667
                  have hB669 := hB515.trans (Ext.stp hX667 hS516.base)
                  have hcq8 : ((r34[(Int.toNat v472)]! = r34[(Int.toNat v499)]!) ∧ (r16[(Int.toNat v472)]!.2.1 < r16[(Int.toNat v499)]!.2.2)) := ((i_and decide_eq_true_iff decide_eq_true_iff).mp hc670)
                  exact is_ext (g_fieldAddr (q := (adr a17).add ((Int.toNat v472) * El.m Stay)) FL39_2 ON3 (if_pos hc670))
                refine ⟨if ((decide (r34[(Int.toNat v472)]! = r34[(Int.toNat v499)]!)) && (decide (r16[(Int.toNat v472)]!.2.1 < r16[(Int.toNat v499)]!.2.2))) = true then .int .i64 (r16[(Int.toNat v472)]!.2.2) else undef, fun w671 hX672 => od_guard (c := ((decide (r34[(Int.toNat v472)]! = r34[(Int.toNat v499)]!)) && (decide (r16[(Int.toNat v472)]!.2.1 < r16[(Int.toNat v499)]!.2.2))) = true) (val := .int .i64 (r16[(Int.toNat v472)]!.2.2)) (b := (((decide (r34[(Int.toNat v472)]! = r34[(Int.toNat v499)]!)) && (decide (r16[(Int.toNat v472)]!.2.1 < r16[(Int.toNat v499)]!.2.2))) == true)) (gv_some rfl rfl rfl) beq_iff_eq (fun hc675 => ?_), ?_⟩
                · have hS673 := hS516.ext hX672
                  have hB674 := hB515.trans (Ext.stp hX672 hS516.base)
                  have hcq8 : ((r34[(Int.toNat v472)]! = r34[(Int.toNat v499)]!) ∧ (r16[(Int.toNat v472)]!.2.1 < r16[(Int.toNat v499)]!.2.2)) := ((i_and decide_eq_true_iff decide_eq_true_iff).mp hc675)
                  exact is_ext (q_loadF (i := v472) (j := 2) (v := .int .i64 (r16[(Int.toNat v472)]!.2.2)) ON3 (oS.vw hS673.g0) (hg665 hcq8) rfl (if_pos hc675))
                refine ⟨if ((decide (r34[(Int.toNat v472)]! = r34[(Int.toNat v499)]!)) && (decide (r16[(Int.toNat v472)]!.2.1 < r16[(Int.toNat v499)]!.2.2))) = true then .bool (decide (r16[(Int.toNat v499)]!.2.1 < r16[(Int.toNat v472)]!.2.2)) else undef, fun w676 hX677 => od_guard (c := ((decide (r34[(Int.toNat v472)]! = r34[(Int.toNat v499)]!)) && (decide (r16[(Int.toNat v472)]!.2.1 < r16[(Int.toNat v499)]!.2.2))) = true) (val := .bool (decide (r16[(Int.toNat v499)]!.2.1 < r16[(Int.toNat v472)]!.2.2))) (b := (((decide (r34[(Int.toNat v472)]! = r34[(Int.toNat v499)]!)) && (decide (r16[(Int.toNat v472)]!.2.1 < r16[(Int.toNat v499)]!.2.2))) == true)) (gv_some rfl rfl rfl) beq_iff_eq (fun hc680 => ?_), ?_⟩
                · have hS678 := hS516.ext hX677
                  have hB679 := hB515.trans (Ext.stp hX677 hS516.base)
                  have hcq8 : ((r34[(Int.toNat v472)]! = r34[(Int.toNat v499)]!) ∧ (r16[(Int.toNat v472)]!.2.1 < r16[(Int.toNat v499)]!.2.2)) := ((i_and decide_eq_true_iff decide_eq_true_iff).mp hc680)
                  exact is_ext (g_lss (a := r16[(Int.toNat v499)]!.2.1) (b := r16[(Int.toNat v472)]!.2.2) (if_pos hc680) (if_pos hc680))
                refine ⟨.bool (((decide (r34[(Int.toNat v472)]! = r34[(Int.toNat v499)]!)) && (decide (r16[(Int.toNat v472)]!.2.1 < r16[(Int.toNat v499)]!.2.2))) && (decide (r16[(Int.toNat v499)]!.2.1 < r16[(Int.toNat v472)]!.2.2))), fun w681 hX682 => od_plain rfl (by have hS683 := hS516.ext hX682; have hB684 := hB515.trans (Ext.stp hX682 hS516.base); exact is_ext (g_pick_and (b := ((decide (r34[(Int.toNat v472)]! = r34[(Int.toNat v499)]!)) && (decide (r16[(Int.toNat v472)]!.2.1 < r16[(Int.toNat v499)]!.2.2)))) (q := (decide (r16[(Int.toNat v499)]!.2.1 < r16[(Int.toNat v472)]!.2.2))) rfl rfl)), ?_⟩
                intro w685 hX686
                have hB687 := hB515.trans (Ext.stp hX686 hS516.base)
                have hS688 := hS516.ext hX686
                refine hK512 _ _ ?_
                refine w_condI (p := ((((r34[(Int.toNat v472)]! = r34[(Int.toNat v499)]!) ∧ (r16[(Int.toNat v472)]!.2.1 < r16[(Int.toNat v499)]!.2.2))) ∧ (r16[(Int.toNat v499)]!.2.1 < r16[(Int.toNat v472)]!.2.2))) (b := (((decide (r34[(Int.toNat v472)]! = r34[(Int.toNat v499)]!)) && (decide (r16[(Int.toNat v472)]!.2.1 < r16[(Int.toNat v499)]!.2.2))) && (decide (r16[(Int.toNat v499)]!.2.1 < r16[(Int.toNat v472)]!.2.2)))) rfl (i_and (i_and decide_eq_true_iff decide_eq_true_iff) decide_eq_true_iff) (fun h689 => ?_) (fun h689 => ?_)
                · replace hm := hm.1 h689
                  refine w_seq fun K690 hK690 => ?_
                  refine w_region ?_
                  refine wl_val (g_assign (v := .bool false) rfl) rfl ?_
                  refine wl_nil ?_
                  refine hK690 _ _ ?_
                  refine w_ret ?_
                  repeat first | with_reducible refine q_then ?_ | with_reducible refine q_block ?_
                  exact ret1 rfl (by decide) ⟨_, hm, rfl, toExt hB687⟩
                · replace hm := hm.2 h689
                  refine w_skip ?_
                  refine hK511 _ _ ?_
                  refine w_region ?_
                  refine wl_val (g_move (v := .int .i64 v499) rfl) rfl ?_
                  obtain ⟨hg691, hm⟩ := hm
                  refine wl_val (g_add (a := v499) (b := 1) rfl rfl hg691) rfl ?_
                  refine wl_val (g_assign (v := .int .i64 (v499 + 1)) rfl) rfl ?_
                  refine wl_nil ?_
                  exact ⟨((v499 + 1)), hm.2, ⟨rfl, rfl, rfl, rfl, rfl, trivial⟩, ⟨hm.1, hB687, hS688⟩⟩
              · replace hm := hm.2 h510
                refine w_exit ?_
                exact ⟨(), ⟨rfl, rfl, rfl, rfl, trivial⟩, ⟨hm, hB505, hS506⟩⟩
          · rintro _ b_ w692 ⟨hm, hB693, hS694⟩
            show Wp _ _ _ _ (upds b_ [(3, .slice a17 n18 c19), (4, .int .i64 r27), (5, .slice a35 n36 c37), (6, .int .i64 v472)]) w692
            refine w_region ?_
            refine wl_val (g_move (v := .int .i64 v472) rfl) rfl ?_
            obtain ⟨hg695, hm⟩ := hm
            refine wl_val (g_add (a := v472) (b := 1) rfl rfl hg695) rfl ?_
            refine wl_val (g_assign (v := .int .i64 (v472 + 1)) rfl) rfl ?_
            refine wl_nil ?_
            exact ⟨((v472 + 1)), hm.2, ⟨rfl, rfl, rfl, rfl, trivial⟩, ⟨hm.1, hB693, hS694⟩⟩
        · replace hm := hm.2 h484
          refine w_exit ?_
          have hS696 := hS480.f1
          have hS697 := hS696.tail
          exact ⟨(), ⟨rfl, rfl, trivial⟩, ⟨hm, hB479, hS697⟩⟩
      · rintro _ b_ w698 ⟨hm, hB699, hS700⟩
        show Wp _ _ _ _ (upds b_ [(3, .slice a17 n18 c19), (4, .int .i64 r27)]) w698
        refine w_seq fun K701 hK701 => ?_
        refine w_region ?_
        refine wl_val (g_move (v := .slice a17 n18 c19) rfl) rfl ?_
        refine wl_step rfl (g_call (vs := #[.slice a17 n18 c19]) CF18 (args1 rfl) (m_impl_QuietTick_fn (oS.vw hS700.g0) hm)) ?_
        rintro _ w702 ⟨r705, hm, rfl, hE703⟩
        have hB706 := hB699.trans (Ext.stp hE703 hS700.base)
        have hS707 := hS700.ext hE703
        refine wl_val (g_assign (v := .int .i64 r705) rfl) rfl ?_
        refine wl_nil ?_
        refine hK701 _ _ ?_
        refine w_seq fun K708 hK708 => ?_
        refine w_region ?_
        refine wl_val (g_assign (v := .int .i64 0) rfl) rfl ?_
        refine wl_nil ?_
        refine hK708 _ _ ?_
        refine w_seq fun K709 hK709 => ?_
        refine w_region ?_
        refine wl_val (g_assign (v := .int .i64 0) rfl) rfl ?_
        refine wl_nil ?_
        refine hK709 _ _ ?_
        refine w_cut (σ := Int) (fun v754 => [(3, .slice a17 n18 c19), (4, .int .i64 r27), (8, .int .i64 r705), (9, .int .i64 v754), (10, .int .i64 0)]) (fun v754 w' => m_laws_FnRails_K2 r16 r27 r705 Q v754 ∧ Below w.heap.size w w' ∧ Sep w' w.heap.size [oS 39 a17 n18 c19 (r16 : List Stay)]) ?_ ?_
        · refine w_seq fun K756 hK756 => ?_
          refine w_region ?_
          refine wl_val (g_assign (v := .int .i64 0) rfl) rfl ?_
          refine wl_nil ?_
          refine hK756 _ _ ?_
          refine w_block ?_
          obtain ⟨I759, μ760, h0761, hr762⟩ := hm
          refine w_for (σ := Int × Int) (fun ⟨v757, v758⟩ => [(3, .slice a17 n18 c19), (4, .int .i64 r27), (8, .int .i64 r705), (9, .int .i64 v757), (10, .int .i64 0), (11, .int .i64 v758)]) (fun ⟨v757, v758⟩ w' => I759 v757 v758 ∧ Below w.heap.size w w' ∧ Sep w' w.heap.size [oS 39 a17 n18 c19 (r16 : List Stay)]) (fun ⟨v757, v758⟩ => μ760 v757 v758) (0, 0) ⟨rfl, rfl, rfl, rfl, rfl, rfl, trivial⟩ ⟨h0761, hB706, hS707⟩ ?_
          rintro ⟨v757, v758⟩ b_ w763 ⟨hi_, hB764, hS765⟩
          show Wp _ _ _ _ (upds b_ [(3, .slice a17 n18 c19), (4, .int .i64 r27), (8, .int .i64 r705), (9, .int .i64 v757), (10, .int .i64 0), (11, .int .i64 v758)]) w763
          have hm := hr762 v757 v758 hi_
          refine w_seq fun K767 hK767 => ?_
          refine w_seq fun K768 hK768 => ?_
          refine w_region ?_
          refine wl_val (g_move (v := .int .i64 v758) rfl) rfl ?_
          refine wl_val (g_lss (a := v758) (b := 5) rfl rfl) rfl ?_
          refine wl_nil ?_
          refine hK768 _ _ ?_
          refine w_condI (p := v758 < 5) (b := (decide (v758 < 5))) rfl decide_eq_true_iff (fun h769 => ?_) (fun h769 => ?_)
          · replace hm := hm.1 h769
            refine w_skip ?_
            refine hK767 _ _ ?_
            refine w_seq fun K770 hK770 => ?_
            refine w_block ?_
            refine w_region ?_
            refine wl_val (g_move (v := .int .i64 v757) rfl) rfl ?_
            refine wl_val (g_move (v := .slice a17 n18 c19) rfl) rfl ?_
            refine wl_val (g_move (v := .int .i64 v758) rfl) rfl ?_
            refine wl_step rfl (g_call (vs := #[.slice a17 n18 c19, .int .i64 v758]) CF19 (args2 rfl rfl) (m_impl_BusyTicks_fn (oS.vw hS765.g0) v758 hm)) ?_
            rintro _ w771 ⟨r774, hm, rfl, hE772⟩
            have hB775 := hB764.trans (Ext.stp hE772 hS765.base)
            have hS776 := hS765.ext hE772
            obtain ⟨hg777, hm⟩ := hm
            refine wl_val (g_add (a := v757) (b := r774) rfl rfl hg777) rfl ?_
            refine wl_val (g_assign (v := .int .i64 (v757 + r774)) rfl) rfl ?_
            refine wl_nil ?_
            refine hK770 _ _ ?_
            refine w_region ?_
            refine wl_val (g_move (v := .int .i64 v758) rfl) rfl ?_
            obtain ⟨hg778, hm⟩ := hm
            refine wl_val (g_add (a := v758) (b := 1) rfl rfl hg778) rfl ?_
            refine wl_val (g_assign (v := .int .i64 (v758 + 1)) rfl) rfl ?_
            refine wl_nil ?_
            exact ⟨((v757 + r774), (v758 + 1)), hm.2, ⟨rfl, rfl, rfl, rfl, rfl, rfl, trivial⟩, ⟨hm.1, hB775, hS776⟩⟩
          · replace hm := hm.2 h769
            refine w_exit ?_
            exact ⟨(v757), ⟨rfl, rfl, rfl, rfl, rfl, trivial⟩, ⟨hm, hB764, hS765⟩⟩
        · rintro v754 b_ w779 ⟨hm, hB780, hS781⟩
          show Wp _ _ _ _ (upds b_ [(3, .slice a17 n18 c19), (4, .int .i64 r27), (8, .int .i64 r705), (9, .int .i64 v754), (10, .int .i64 0)]) w779
          refine w_cut (σ := Int) (fun v974 => [(3, .slice a17 n18 c19), (4, .int .i64 r27), (8, .int .i64 r705), (9, .int .i64 v754), (10, .int .i64 v974)]) (fun v974 w' => m_laws_FnRails_K1 r16 r27 r705 v754 Q v974 ∧ Below w.heap.size w w' ∧ Sep w' w.heap.size [oS 39 a17 n18 c19 (r16 : List Stay)]) ?_ ?_
          · refine w_seq fun K976 hK976 => ?_
            refine w_region ?_
            refine wl_val (g_assign (v := .int .i64 0) rfl) rfl ?_
            refine wl_nil ?_
            refine hK976 _ _ ?_
            refine w_block ?_
            obtain ⟨I979, μ980, h0981, hr982⟩ := hm
            refine w_for (σ := Int × Int) (fun ⟨v977, v978⟩ => [(3, .slice a17 n18 c19), (4, .int .i64 r27), (8, .int .i64 r705), (9, .int .i64 v754), (10, .int .i64 v977), (12, .int .i64 v978)]) (fun ⟨v977, v978⟩ w' => I979 v977 v978 ∧ Below w.heap.size w w' ∧ Sep w' w.heap.size [oS 39 a17 n18 c19 (r16 : List Stay)]) (fun ⟨v977, v978⟩ => μ980 v977 v978) (0, 0) ⟨rfl, rfl, rfl, rfl, rfl, rfl, trivial⟩ ⟨h0981, hB780, hS781⟩ ?_
            rintro ⟨v977, v978⟩ b_ w983 ⟨hi_, hB984, hS985⟩
            show Wp _ _ _ _ (upds b_ [(3, .slice a17 n18 c19), (4, .int .i64 r27), (8, .int .i64 r705), (9, .int .i64 v754), (10, .int .i64 v977), (12, .int .i64 v978)]) w983
            have hm := hr982 v977 v978 hi_
            refine w_seq fun K987 hK987 => ?_
            refine w_seq fun K988 hK988 => ?_
            refine w_region ?_
            refine wl_val (g_move (v := .int .i64 v978) rfl) rfl ?_
            refine wl_val (g_move (v := .slice a17 n18 c19) rfl) rfl ?_
            refine wl_val (q_len SL26 rfl (Vw.len (oS.vw hS985.g0))) rfl ?_
            refine wl_val (g_lss (a := v978) (b := (r16.length : Int)) rfl rfl) rfl ?_
            refine wl_nil ?_
            refine hK988 _ _ ?_
            refine w_condI (p := v978 < (r16.length : Int)) (b := (decide (v978 < (r16.length : Int)))) rfl decide_eq_true_iff (fun h989 => ?_) (fun h989 => ?_)
            · replace hm := hm.1 h989
              refine w_skip ?_
              refine hK987 _ _ ?_
              refine w_seq fun K990 hK990 => ?_
              refine w_block ?_
              refine w_seq fun K991 hK991 => ?_
              refine w_draw (X := Ext) (Y := Ext) [] MIX (by decide +kernel) rfl Ext.refl (fun _ _ _ => Ext.trans) (fun _ _ _ => Chg.trans) (fun _ _ h => Ext.chg h _) (fun w992 hE993 => ?_)
              have hB994 := hB984.trans (Ext.stp hE993 hS985.base)
              have hS995 := hS985.ext hE993
              refine ⟨.int .i64 v977, fun w996 hX997 => od_plain rfl (by have hS998 := hS995.ext hX997; have hB999 := hB994.trans (Ext.stp hX997 hS995.base); exact is_ext (g_move (v := .int .i64 v977) rfl)), ?_⟩
              refine ⟨.slice a17 n18 c19, fun w1000 hX1001 => od_plain rfl (by have hS1002 := hS995.ext hX1001; have hB1003 := hB994.trans (Ext.stp hX1001 hS995.base); exact is_ext (g_move (v := .slice a17 n18 c19) rfl)), ?_⟩
              refine ⟨.int .i64 v978, fun w1004 hX1005 => od_plain rfl (by have hS1006 := hS995.ext hX1005; have hB1007 := hB994.trans (Ext.stp hX1005 hS995.base); exact is_ext (g_move (v := .int .i64 v978) rfl)), ?_⟩
              obtain ⟨hg1012, hm⟩ := hm
              refine ⟨.pointer (some ((adr a17).add ((Int.toNat v978) * El.m Stay))), fun w1008 hX1009 => od_plain rfl (by have hS1010 := hS995.ext hX1009; have hB1011 := hB994.trans (Ext.stp hX1009 hS995.base); exact is_ext (q_index (i := v978) SL26 rfl rfl (oS.vw hS1010.g0) hg1012)), ?_⟩
              refine ⟨.pointer (some (((adr a17).add ((Int.toNat v978) * El.m Stay)).add 2)), fun w1013 hX1014 => od_plain rfl (by have hS1015 := hS995.ext hX1014; have hB1016 := hB994.trans (Ext.stp hX1014 hS995.base); exact is_ext (g_fieldAddr (q := (adr a17).add ((Int.toNat v978) * El.m Stay)) FL39_2 ON3 rfl)), ?_⟩
              refine ⟨.int .i64 (r16[(Int.toNat v978)]!.2.2), fun w1017 hX1018 => od_plain rfl (by have hS1019 := hS995.ext hX1018; have hB1020 := hB994.trans (Ext.stp hX1018 hS995.base); exact is_ext (q_loadF (i := v978) (j := 2) (v := .int .i64 (r16[(Int.toNat v978)]!.2.2)) ON3 (oS.vw hS1019.g0) hg1012 rfl rfl)), ?_⟩
              obtain ⟨hg1025, hm⟩ := hm
              refine ⟨.int .i64 (v977 + r16[(Int.toNat v978)]!.2.2), fun w1021 hX1022 => od_plain rfl (by have hS1023 := hS995.ext hX1022; have hB1024 := hB994.trans (Ext.stp hX1022 hS995.base); exact is_ext (g_add (a := v977) (b := r16[(Int.toNat v978)]!.2.2) rfl rfl hg1025)), ?_⟩
              refine ⟨.slice a17 n18 c19, fun w1026 hX1027 => od_plain rfl (by have hS1028 := hS995.ext hX1027; have hB1029 := hB994.trans (Ext.stp hX1027 hS995.base); exact is_ext (g_move (v := .slice a17 n18 c19) rfl)), ?_⟩
              refine ⟨.int .i64 v978, fun w1030 hX1031 => od_plain rfl (by have hS1032 := hS995.ext hX1031; have hB1033 := hB994.trans (Ext.stp hX1031 hS995.base); exact is_ext (g_move (v := .int .i64 v978) rfl)), ?_⟩
              obtain ⟨hg1038, hm⟩ := hm
              refine ⟨.pointer (some ((adr a17).add ((Int.toNat v978) * El.m Stay))), fun w1034 hX1035 => od_plain rfl (by have hS1036 := hS995.ext hX1035; have hB1037 := hB994.trans (Ext.stp hX1035 hS995.base); exact is_ext (q_index (i := v978) SL26 rfl rfl (oS.vw hS1036.g0) hg1038)), ?_⟩
              refine ⟨.pointer (some (((adr a17).add ((Int.toNat v978) * El.m Stay)).add 1)), fun w1039 hX1040 => od_plain rfl (by have hS1041 := hS995.ext hX1040; have hB1042 := hB994.trans (Ext.stp hX1040 hS995.base); exact is_ext (g_fieldAddr (q := (adr a17).add ((Int.toNat v978) * El.m Stay)) FL39_1 ON3 rfl)), ?_⟩
              refine ⟨.int .i64 (r16[(Int.toNat v978)]!.2.1), fun w1043 hX1044 => od_plain rfl (by have hS1045 := hS995.ext hX1044; have hB1046 := hB994.trans (Ext.stp hX1044 hS995.base); exact is_ext (q_loadF (i := v978) (j := 1) (v := .int .i64 (r16[(Int.toNat v978)]!.2.1)) ON3 (oS.vw hS1045.g0) hg1038 rfl rfl)), ?_⟩
              obtain ⟨hg1051, hm⟩ := hm
              refine ⟨.int .i64 ((v977 + r16[(Int.toNat v978)]!.2.2) - r16[(Int.toNat v978)]!.2.1), fun w1047 hX1048 => od_plain rfl (by have hS1049 := hS995.ext hX1048; have hB1050 := hB994.trans (Ext.stp hX1048 hS995.base); exact is_ext (g_sub (a := (v977 + r16[(Int.toNat v978)]!.2.2)) (b := r16[(Int.toNat v978)]!.2.1) rfl rfl hg1051)), ?_⟩
              refine ⟨.int .i64 ((v977 + r16[(Int.toNat v978)]!.2.2) - r16[(Int.toNat v978)]!.2.1), fun w1052 hX1053 => od_plain rfl (by have hS1054 := hS995.ext hX1053; have hB1055 := hB994.trans (Ext.stp hX1053 hS995.base); exact is_ext (g_assign (v := .int .i64 ((v977 + r16[(Int.toNat v978)]!.2.2) - r16[(Int.toNat v978)]!.2.1)) rfl)), ?_⟩
              intro w1056 hX1057
              have hB1058 := hB994.trans (Ext.stp hX1057 hS995.base)
              have hS1059 := hS995.ext hX1057
              refine hK991 _ _ ?_
              refine w_seq fun K1060 hK1060 => ?_
              refine w_region ?_
              refine wl_val (g_move (v := .slice a17 n18 c19) rfl) rfl ?_
              refine wl_val (g_move (v := .int .i64 v978) rfl) rfl ?_
              obtain ⟨hg1061, hm⟩ := hm
              refine wl_val (q_index (i := v978) SL26 rfl rfl (oS.vw hS1059.g0) hg1061) rfl ?_
              refine wl_val (g_fieldAddr (q := (adr a17).add ((Int.toNat v978) * El.m Stay)) FL39_1 ON3 rfl) rfl ?_
              refine wl_val (q_loadF (i := v978) (j := 1) (v := .int .i64 (r16[(Int.toNat v978)]!.2.1)) ON3 (oS.vw hS1059.g0) hg1061 rfl rfl) rfl ?_
              refine wl_val (g_move (v := .int .i64 r705) rfl) rfl ?_
              refine wl_val (g_leq (a := r16[(Int.toNat v978)]!.2.1) (b := r705) rfl rfl) rfl ?_
              refine wl_val (g_move (v := .bool (decide (r16[(Int.toNat v978)]!.2.1 ≤ r705))) rfl) rfl ?_
              refine wl_guard (c := (decide (r16[(Int.toNat v978)]!.2.1 ≤ r705)) = true) (val := .int .i64 r705) (b := ((decide (r16[(Int.toNat v978)]!.2.1 ≤ r705)) == true)) (gv_some rfl rfl rfl) beq_iff_eq (fun hc1062 => ?_) ?_
              · have hcq11 : r16[(Int.toNat v978)]!.2.1 ≤ r705 := (decide_eq_true_iff.mp hc1062)
                exact g_move (v := .int .i64 r705) rfl
              refine wl_guard (c := (decide (r16[(Int.toNat v978)]!.2.1 ≤ r705)) = true) (val := .slice a17 n18 c19) (b := ((decide (r16[(Int.toNat v978)]!.2.1 ≤ r705)) == true)) (gv_some rfl rfl rfl) beq_iff_eq (fun hc1063 => ?_) ?_
              · have hcq11 : r16[(Int.toNat v978)]!.2.1 ≤ r705 := (decide_eq_true_iff.mp hc1063)
                exact g_move (v := .slice a17 n18 c19) rfl
              refine wl_guard (c := (decide (r16[(Int.toNat v978)]!.2.1 ≤ r705)) = true) (val := .int .i64 v978) (b := ((decide (r16[(Int.toNat v978)]!.2.1 ≤ r705)) == true)) (gv_some rfl rfl rfl) beq_iff_eq (fun hc1064 => ?_) ?_
              · have hcq11 : r16[(Int.toNat v978)]!.2.1 ≤ r705 := (decide_eq_true_iff.mp hc1064)
                exact g_move (v := .int .i64 v978) rfl
              obtain ⟨hg1066, hm⟩ := hm
              refine wl_guard (c := (decide (r16[(Int.toNat v978)]!.2.1 ≤ r705)) = true) (val := .pointer (some ((adr a17).add ((Int.toNat v978) * El.m Stay)))) (b := ((decide (r16[(Int.toNat v978)]!.2.1 ≤ r705)) == true)) (gv_some rfl rfl rfl) beq_iff_eq (fun hc1065 => ?_) ?_
              · have hcq11 : r16[(Int.toNat v978)]!.2.1 ≤ r705 := (decide_eq_true_iff.mp hc1065)
                exact q_index (i := v978) SL26 (if_pos hc1065) (if_pos hc1065) (oS.vw hS1059.g0) (hg1066 hcq11)
              refine wl_guard (c := (decide (r16[(Int.toNat v978)]!.2.1 ≤ r705)) = true) (val := .pointer (some (((adr a17).add ((Int.toNat v978) * El.m Stay)).add 2))) (b := ((decide (r16[(Int.toNat v978)]!.2.1 ≤ r705)) == true)) (gv_some rfl rfl rfl) beq_iff_eq (fun hc1067 => ?_) ?_
              · have hcq11 : r16[(Int.toNat v978)]!.2.1 ≤ r705 := (decide_eq_true_iff.mp hc1067)
                exact g_fieldAddr (q := (adr a17).add ((Int.toNat v978) * El.m Stay)) FL39_2 ON3 (if_pos hc1067)
              refine wl_guard (c := (decide (r16[(Int.toNat v978)]!.2.1 ≤ r705)) = true) (val := .int .i64 (r16[(Int.toNat v978)]!.2.2)) (b := ((decide (r16[(Int.toNat v978)]!.2.1 ≤ r705)) == true)) (gv_some rfl rfl rfl) beq_iff_eq (fun hc1068 => ?_) ?_
              · have hcq11 : r16[(Int.toNat v978)]!.2.1 ≤ r705 := (decide_eq_true_iff.mp hc1068)
                exact q_loadF (i := v978) (j := 2) (v := .int .i64 (r16[(Int.toNat v978)]!.2.2)) ON3 (oS.vw hS1059.g0) (hg1066 hcq11) rfl (if_pos hc1068)
              refine wl_guard (c := (decide (r16[(Int.toNat v978)]!.2.1 ≤ r705)) = true) (val := .bool (decide (r705 < r16[(Int.toNat v978)]!.2.2))) (b := ((decide (r16[(Int.toNat v978)]!.2.1 ≤ r705)) == true)) (gv_some rfl rfl rfl) beq_iff_eq (fun hc1069 => ?_) ?_
              · have hcq11 : r16[(Int.toNat v978)]!.2.1 ≤ r705 := (decide_eq_true_iff.mp hc1069)
                exact g_lss (a := r705) (b := r16[(Int.toNat v978)]!.2.2) (if_pos hc1069) (if_pos hc1069)
              refine wl_val (g_pick_and (b := (decide (r16[(Int.toNat v978)]!.2.1 ≤ r705))) (q := (decide (r705 < r16[(Int.toNat v978)]!.2.2))) rfl rfl) rfl ?_
              refine wl_nil ?_
              refine hK1060 _ _ ?_
              refine w_condI (p := ((r16[(Int.toNat v978)]!.2.1 ≤ r705) ∧ (r705 < r16[(Int.toNat v978)]!.2.2))) (b := ((decide (r16[(Int.toNat v978)]!.2.1 ≤ r705)) && (decide (r705 < r16[(Int.toNat v978)]!.2.2)))) rfl (i_and decide_eq_true_iff decide_eq_true_iff) (fun h1070 => ?_) (fun h1070 => ?_)
              · replace hm := hm.1 h1070
                refine w_seq fun K1071 hK1071 => ?_
                refine w_region ?_
                refine wl_val (g_assign (v := .bool false) rfl) rfl ?_
                refine wl_nil ?_
                refine hK1071 _ _ ?_
                refine w_ret ?_
                repeat first | with_reducible refine q_then ?_ | with_reducible refine q_block ?_
                exact ret1 rfl (by decide) ⟨_, hm, rfl, toExt hB1058⟩
              · replace hm := hm.2 h1070
                refine w_skip ?_
                refine hK990 _ _ ?_
                refine w_region ?_
                refine wl_val (g_move (v := .int .i64 v978) rfl) rfl ?_
                obtain ⟨hg1072, hm⟩ := hm
                refine wl_val (g_add (a := v978) (b := 1) rfl rfl hg1072) rfl ?_
                refine wl_val (g_assign (v := .int .i64 (v978 + 1)) rfl) rfl ?_
                refine wl_nil ?_
                exact ⟨(((v977 + r16[(Int.toNat v978)]!.2.2) - r16[(Int.toNat v978)]!.2.1), (v978 + 1)), hm.2, ⟨rfl, rfl, rfl, rfl, rfl, rfl, trivial⟩, ⟨hm.1, hB1058, hS1059⟩⟩
            · replace hm := hm.2 h989
              refine w_exit ?_
              exact ⟨(v977), ⟨rfl, rfl, rfl, rfl, rfl, trivial⟩, ⟨hm, hB984, hS985⟩⟩
          · rintro v974 b_ w1073 ⟨hm, hB1074, hS1075⟩
            show Wp _ _ _ _ (upds b_ [(3, .slice a17 n18 c19), (4, .int .i64 r27), (8, .int .i64 r705), (9, .int .i64 v754), (10, .int .i64 v974)]) w1073
            refine w_seq fun K1076 hK1076 => ?_
            refine w_region ?_
            refine wl_val (g_move (v := .int .i64 r705) rfl) rfl ?_
            refine wl_val (g_geq (a := r705) (b := 0) rfl rfl) rfl ?_
            refine wl_val (g_move (v := .bool (decide (r705 ≥ 0))) rfl) rfl ?_
            refine wl_guard (c := (decide (r705 ≥ 0)) = true) (val := .int .i64 v754) (b := ((decide (r705 ≥ 0)) == true)) (gv_some rfl rfl rfl) beq_iff_eq (fun hc1077 => ?_) ?_
            · have hcq12 : r705 ≥ 0 := (decide_eq_true_iff.mp hc1077)
              exact g_move (v := .int .i64 v754) rfl
            refine wl_guard (c := (decide (r705 ≥ 0)) = true) (val := .int .i64 v974) (b := ((decide (r705 ≥ 0)) == true)) (gv_some rfl rfl rfl) beq_iff_eq (fun hc1078 => ?_) ?_
            · have hcq12 : r705 ≥ 0 := (decide_eq_true_iff.mp hc1078)
              exact g_move (v := .int .i64 v974) rfl
            refine wl_guard (c := (decide (r705 ≥ 0)) = true) (val := .bool (decide (v754 ≤ v974))) (b := ((decide (r705 ≥ 0)) == true)) (gv_some rfl rfl rfl) beq_iff_eq (fun hc1079 => ?_) ?_
            · have hcq12 : r705 ≥ 0 := (decide_eq_true_iff.mp hc1079)
              exact g_leq (a := v754) (b := v974) (if_pos hc1079) (if_pos hc1079)
            refine wl_val (g_pick_and (b := (decide (r705 ≥ 0))) (q := (decide (v754 ≤ v974))) rfl rfl) rfl ?_
            refine wl_val (g_move (v := .bool ((decide (r705 ≥ 0)) && (decide (v754 ≤ v974)))) rfl) rfl ?_
            refine wl_guard (c := ((decide (r705 ≥ 0)) && (decide (v754 ≤ v974))) = true) (val := .int .i64 v754) (b := (((decide (r705 ≥ 0)) && (decide (v754 ≤ v974))) == true)) (gv_some rfl rfl rfl) beq_iff_eq (fun hc1080 => ?_) ?_
            · have hcq13 : ((r705 ≥ 0) ∧ (v754 ≤ v974)) := ((i_and decide_eq_true_iff decide_eq_true_iff).mp hc1080)
              exact g_move (v := .int .i64 v754) rfl
            refine wl_guard (c := ((decide (r705 ≥ 0)) && (decide (v754 ≤ v974))) = true) (val := .bool (decide (v754 > 0))) (b := (((decide (r705 ≥ 0)) && (decide (v754 ≤ v974))) == true)) (gv_some rfl rfl rfl) beq_iff_eq (fun hc1081 => ?_) ?_
            · have hcq13 : ((r705 ≥ 0) ∧ (v754 ≤ v974)) := ((i_and decide_eq_true_iff decide_eq_true_iff).mp hc1081)
              exact g_gtr (a := v754) (b := 0) (if_pos hc1081) rfl
            refine wl_guard (c := ((decide (r705 ≥ 0)) && (decide (v754 ≤ v974))) = true) (val := .slice a17 n18 c19) (b := (((decide (r705 ≥ 0)) && (decide (v754 ≤ v974))) == true)) (gv_some rfl rfl rfl) beq_iff_eq (fun hc1082 => ?_) ?_
            · have hcq13 : ((r705 ≥ 0) ∧ (v754 ≤ v974)) := ((i_and decide_eq_true_iff decide_eq_true_iff).mp hc1082)
              exact g_move (v := .slice a17 n18 c19) rfl
            refine wl_guard (c := ((decide (r705 ≥ 0)) && (decide (v754 ≤ v974))) = true) (val := .int .i64 (r16.length : Int)) (b := (((decide (r705 ≥ 0)) && (decide (v754 ≤ v974))) == true)) (gv_some rfl rfl rfl) beq_iff_eq (fun hc1083 => ?_) ?_
            · have hcq13 : ((r705 ≥ 0) ∧ (v754 ≤ v974)) := ((i_and decide_eq_true_iff decide_eq_true_iff).mp hc1083)
              exact q_len SL26 (if_pos hc1083) (Vw.len (oS.vw hS1075.g0))
            refine wl_guard (c := ((decide (r705 ≥ 0)) && (decide (v754 ≤ v974))) = true) (val := .bool (decide ((r16.length : Int) > 0))) (b := (((decide (r705 ≥ 0)) && (decide (v754 ≤ v974))) == true)) (gv_some rfl rfl rfl) beq_iff_eq (fun hc1084 => ?_) ?_
            · have hcq13 : ((r705 ≥ 0) ∧ (v754 ≤ v974)) := ((i_and decide_eq_true_iff decide_eq_true_iff).mp hc1084)
              exact g_gtr (a := (r16.length : Int)) (b := 0) (if_pos hc1084) rfl
            refine wl_guard (c := ((decide (r705 ≥ 0)) && (decide (v754 ≤ v974))) = true) (val := .bool (decide ((decide (v754 > 0)) = (decide ((r16.length : Int) > 0))))) (b := (((decide (r705 ≥ 0)) && (decide (v754 ≤ v974))) == true)) (gv_some rfl rfl rfl) beq_iff_eq (fun hc1085 => ?_) ?_
            · have hcq13 : ((r705 ≥ 0) ∧ (v754 ≤ v974)) := ((i_and decide_eq_true_iff decide_eq_true_iff).mp hc1085)
              exact g_eql_b (a := (decide (v754 > 0))) (b := (decide ((r16.length : Int) > 0))) UB (if_pos hc1085) (if_pos hc1085)
            refine wl_val (g_pick_and (b := ((decide (r705 ≥ 0)) && (decide (v754 ≤ v974)))) (q := (decide ((decide (v754 > 0)) = (decide ((r16.length : Int) > 0))))) rfl rfl) rfl ?_
            refine wl_val (g_move (v := .bool (((decide (r705 ≥ 0)) && (decide (v754 ≤ v974))) && (decide ((decide (v754 > 0)) = (decide ((r16.length : Int) > 0)))))) rfl) rfl ?_
            refine wl_guard (c := (((decide (r705 ≥ 0)) && (decide (v754 ≤ v974))) && (decide ((decide (v754 > 0)) = (decide ((r16.length : Int) > 0))))) = true) (val := .int .i64 r27) (b := ((((decide (r705 ≥ 0)) && (decide (v754 ≤ v974))) && (decide ((decide (v754 > 0)) = (decide ((r16.length : Int) > 0))))) == true)) (gv_some rfl rfl rfl) beq_iff_eq (fun hc1086 => ?_) ?_
            · have hcq14 : ((((r705 ≥ 0) ∧ (v754 ≤ v974))) ∧ ((decide (v754 > 0)) = (decide ((r16.length : Int) > 0)))) := ((i_and (i_and decide_eq_true_iff decide_eq_true_iff) decide_eq_true_iff).mp hc1086)
              exact g_move (v := .int .i64 r27) rfl
            refine wl_guard (c := (((decide (r705 ≥ 0)) && (decide (v754 ≤ v974))) && (decide ((decide (v754 > 0)) = (decide ((r16.length : Int) > 0))))) = true) (val := .bool (decide (r27 = 0))) (b := ((((decide (r705 ≥ 0)) && (decide (v754 ≤ v974))) && (decide ((decide (v754 > 0)) = (decide ((r16.length : Int) > 0))))) == true)) (gv_some rfl rfl rfl) beq_iff_eq (fun hc1087 => ?_) ?_
            · have hcq14 : ((((r705 ≥ 0) ∧ (v754 ≤ v974))) ∧ ((decide (v754 > 0)) = (decide ((r16.length : Int) > 0)))) := ((i_and (i_and decide_eq_true_iff decide_eq_true_iff) decide_eq_true_iff).mp hc1087)
              exact g_eql (a := r27) (b := 0) (if_pos hc1087) rfl
            refine wl_guard (c := (((decide (r705 ≥ 0)) && (decide (v754 ≤ v974))) && (decide ((decide (v754 > 0)) = (decide ((r16.length : Int) > 0))))) = true) (val := .slice a17 n18 c19) (b := ((((decide (r705 ≥ 0)) && (decide (v754 ≤ v974))) && (decide ((decide (v754 > 0)) = (decide ((r16.length : Int) > 0))))) == true)) (gv_some rfl rfl rfl) beq_iff_eq (fun hc1088 => ?_) ?_
            · have hcq14 : ((((r705 ≥ 0) ∧ (v754 ≤ v974))) ∧ ((decide (v754 > 0)) = (decide ((r16.length : Int) > 0)))) := ((i_and (i_and decide_eq_true_iff decide_eq_true_iff) decide_eq_true_iff).mp hc1088)
              exact g_move (v := .slice a17 n18 c19) rfl
            refine wl_guard (c := (((decide (r705 ≥ 0)) && (decide (v754 ≤ v974))) && (decide ((decide (v754 > 0)) = (decide ((r16.length : Int) > 0))))) = true) (val := .int .i64 (r16.length : Int)) (b := ((((decide (r705 ≥ 0)) && (decide (v754 ≤ v974))) && (decide ((decide (v754 > 0)) = (decide ((r16.length : Int) > 0))))) == true)) (gv_some rfl rfl rfl) beq_iff_eq (fun hc1089 => ?_) ?_
            · have hcq14 : ((((r705 ≥ 0) ∧ (v754 ≤ v974))) ∧ ((decide (v754 > 0)) = (decide ((r16.length : Int) > 0)))) := ((i_and (i_and decide_eq_true_iff decide_eq_true_iff) decide_eq_true_iff).mp hc1089)
              exact q_len SL26 (if_pos hc1089) (Vw.len (oS.vw hS1075.g0))
            refine wl_guard (c := (((decide (r705 ≥ 0)) && (decide (v754 ≤ v974))) && (decide ((decide (v754 > 0)) = (decide ((r16.length : Int) > 0))))) = true) (val := .bool (decide ((r16.length : Int) = 0))) (b := ((((decide (r705 ≥ 0)) && (decide (v754 ≤ v974))) && (decide ((decide (v754 > 0)) = (decide ((r16.length : Int) > 0))))) == true)) (gv_some rfl rfl rfl) beq_iff_eq (fun hc1090 => ?_) ?_
            · have hcq14 : ((((r705 ≥ 0) ∧ (v754 ≤ v974))) ∧ ((decide (v754 > 0)) = (decide ((r16.length : Int) > 0)))) := ((i_and (i_and decide_eq_true_iff decide_eq_true_iff) decide_eq_true_iff).mp hc1090)
              exact g_eql (a := (r16.length : Int)) (b := 0) (if_pos hc1090) rfl
            refine wl_guard (c := (((decide (r705 ≥ 0)) && (decide (v754 ≤ v974))) && (decide ((decide (v754 > 0)) = (decide ((r16.length : Int) > 0))))) = true) (val := .bool (decide ((decide (r27 = 0)) = (decide ((r16.length : Int) = 0))))) (b := ((((decide (r705 ≥ 0)) && (decide (v754 ≤ v974))) && (decide ((decide (v754 > 0)) = (decide ((r16.length : Int) > 0))))) == true)) (gv_some rfl rfl rfl) beq_iff_eq (fun hc1091 => ?_) ?_
            · have hcq14 : ((((r705 ≥ 0) ∧ (v754 ≤ v974))) ∧ ((decide (v754 > 0)) = (decide ((r16.length : Int) > 0)))) := ((i_and (i_and decide_eq_true_iff decide_eq_true_iff) decide_eq_true_iff).mp hc1091)
              exact g_eql_b (a := (decide (r27 = 0))) (b := (decide ((r16.length : Int) = 0))) UB (if_pos hc1091) (if_pos hc1091)
            refine wl_val (g_pick_and (b := (((decide (r705 ≥ 0)) && (decide (v754 ≤ v974))) && (decide ((decide (v754 > 0)) = (decide ((r16.length : Int) > 0)))))) (q := (decide ((decide (r27 = 0)) = (decide ((r16.length : Int) = 0))))) rfl rfl) rfl ?_
            refine wl_val (g_assign (v := .bool ((((decide (r705 ≥ 0)) && (decide (v754 ≤ v974))) && (decide ((decide (v754 > 0)) = (decide ((r16.length : Int) > 0))))) && (decide ((decide (r27 = 0)) = (decide ((r16.length : Int) = 0)))))) rfl) rfl ?_
            refine wl_nil ?_
            refine hK1076 _ _ ?_
            refine w_ret ?_
            repeat first | with_reducible refine q_then ?_ | with_reducible refine q_block ?_
            exact ret1 rfl (by decide) ⟨_, hm, rfl, toExt hB1074⟩

end Go.Proofs.Ytebfcpninegcgaa
