/- The walks: the code does what its model says. Printed by a program (gen2.py). No statement of the claim stands here. -/
import Derived.Test.YthmemoealgieaaaSop
import Derived.Test.YthmemoealgieaaaFacts
import Derived.Test.YthmemoealgieaaaMC
import Derived.Test.YthmemoealgieaaaWC1
namespace Go.Proofs.Ythmemoealgieaaa
open Go Go.RowKit
set_option maxRecDepth 100000
theorem m_impl_CountOrders_fn {w : World} {a0 : Option Addr} {n0 c0 : Nat} {y0 : List CueD} {p0 : List CueC} {Q : Int → Prop} (hp0 : Tv w.heap.size w a0 n0 c0 y0 p0) (hm : m_impl_CountOrders p0 Q) :
    Fn Try.prog 33 #[.slice a0 n0 c0] w (fun v w' => ∃ (r0 : Int), Q r0 ∧ v = .int .i64 r0 ∧ Ext w w') := by
  unfold m_impl_CountOrders at hm
  have hB0 := Below.refl w.heap.size w
  have hS0 : Sep w w.heap.size [] := Sep.nil (Nat.le_refl _)
  refine fn_of_wp Try.func33 rfl (by kernel_rfl) (Nat.le_of_ble_eq_true rfl) ?_
  refine w_seq fun K1 hK1 => ?_
  refine w_region ?_
  refine wl_val (g_assign (v := .int .i64 0) rfl) rfl ?_
  refine wl_nil ?_
  refine hK1 _ _ ?_
  refine w_seq fun K2 hK2 => ?_
  refine w_seq fun K3 hK3 => ?_
  refine w_region ?_
  refine wl_val (g_move (v := .slice a0 n0 c0) rfl) rfl ?_
  refine wl_step rfl (g_call (vs := #[.slice a0 n0 c0]) CF29 (args1 rfl) (m_impl_CuesOk_fn ((hp0.bel hB0).up hS0) hm)) ?_
  rintro _ w4 ⟨r7, hm, rfl, hE5⟩
  have hB8 := hB0.trans (Ext.stp hE5 hS0.base)
  have hS9 := hS0.ext hE5
  refine wl_val (g_not (a := r7) rfl) rfl ?_
  refine wl_val (g_move (v := .bool (!r7)) rfl) rfl ?_
  refine wl_guard (c := (!r7) = false) (val := .slice a0 n0 c0) (b := ((!r7) == false)) (gv_some rfl rfl rfl) beq_iff_eq (fun hc10 => ?_) ?_
  · have hcq0 : ¬ (¬ (r7 = true)) := (i_neg (i_not Iff.rfl) hc10)
    exact g_move (v := .slice a0 n0 c0) rfl
  refine wl_guard (c := (!r7) = false) (val := .int .i64 (p0.length : Int)) (b := ((!r7) == false)) (gv_some rfl rfl rfl) beq_iff_eq (fun hc11 => ?_) ?_
  · have hcq0 : ¬ (¬ (r7 = true)) := (i_neg (i_not Iff.rfl) hc11)
    exact q_len SL26 (if_pos hc11) (Tv.len (hp0.bel hB8))
  refine wl_guard (c := (!r7) = false) (val := .bool (decide ((p0.length : Int) > 10))) (b := ((!r7) == false)) (gv_some rfl rfl rfl) beq_iff_eq (fun hc12 => ?_) ?_
  · have hcq0 : ¬ (¬ (r7 = true)) := (i_neg (i_not Iff.rfl) hc12)
    exact g_gtr (a := (p0.length : Int)) (b := 10) (if_pos hc12) rfl
  refine wl_val (g_pick_or (b := (!r7)) (q := (decide ((p0.length : Int) > 10))) rfl rfl) rfl ?_
  refine wl_nil ?_
  refine hK3 _ _ ?_
  refine w_condI (p := ((¬ (r7 = true)) ∨ ((p0.length : Int) > 10))) (b := ((!r7) || (decide ((p0.length : Int) > 10)))) rfl (i_or (i_not Iff.rfl) decide_eq_true_iff) (fun h13 => ?_) (fun h13 => ?_)
  · replace hm := hm.1 h13
    refine w_seq fun K14 hK14 => ?_
    refine w_region ?_
    refine wl_val (g_assign (v := .int .i64 (-1)) rfl) rfl ?_
    refine wl_nil ?_
    refine hK14 _ _ ?_
    refine w_ret ?_
    repeat first | with_reducible refine q_then ?_ | with_reducible refine q_block ?_
    exact ret1 rfl (by decide) ⟨_, hm, rfl, toExt hB8⟩
  · replace hm := hm.2 h13
    refine w_skip ?_
    refine hK2 _ _ ?_
    refine w_seq fun K15 hK15 => ?_
    refine w_region ?_
    refine wl_val (g_move (v := .slice a0 n0 c0) rfl) rfl ?_
    refine wl_val (q_len SL26 rfl (Tv.len (hp0.bel hB8))) rfl ?_
    obtain ⟨hg16, hm⟩ := hm
    obtain ⟨hg17, hm⟩ := hm
    refine wl_val (g_shl (a := 1) (b := (p0.length : Int)) rfl rfl hg16 hg17) rfl ?_
    obtain ⟨hg18, hm⟩ := hm
    refine wl_step rfl (q_make (y := (0 : Int)) SL24 rfl rfl hg18.1 hg18.2 (by decide) hS9) ?_
    rintro _ w19 ⟨a20, rfl, hS22, hE21⟩
    have hB24 := hB8.trans (Ext.stp hE21 hS9.base)
    refine wl_val (g_assign (v := .slice a20 (Int.toNat (sal 1 (p0.length : Int))) (Int.toNat (sal 1 (p0.length : Int)))) rfl) rfl ?_
    refine wl_nil ?_
    refine hK15 _ _ ?_
    refine w_seq fun K25 hK25 => ?_
    refine w_region ?_
    refine wl_val (g_move (v := .slice a20 (Int.toNat (sal 1 (p0.length : Int))) (Int.toNat (sal 1 (p0.length : Int)))) rfl) rfl ?_
    obtain ⟨hg26, hm⟩ := hm
    refine wl_val (q_index (i := 0) SL24 rfl rfl (oS.vw hS22.g0) hg26) rfl ?_
    refine wl_step rfl (q_store (i := 0) (v := (1 : Int)) hS22 ON3.sz hg26 rfl rfl rfl) ?_
    rintro _ w27 ⟨rfl, hS28, hb29⟩
    have hB30 := hB24.trans hb29
    refine wl_nil ?_
    refine hK25 _ _ ?_
    refine w_cut (σ := List Int) (fun x549 => [(3, .slice a20 (Int.toNat (sal 1 (p0.length : Int))) (Int.toNat (sal 1 (p0.length : Int))))]) (fun x549 w' => m_impl_CountOrders_K1 Q x549 ∧ Below w.heap.size w w' ∧ Sep w' w.heap.size [oS 3 a20 (Int.toNat (sal 1 (p0.length : Int))) (Int.toNat (sal 1 (p0.length : Int))) (x549 : List Int)]) ?_ ?_
    · refine w_seq fun K551 hK551 => ?_
      refine w_region ?_
      refine wl_val (g_move (v := .slice a20 (Int.toNat (sal 1 (p0.length : Int))) (Int.toNat (sal 1 (p0.length : Int)))) rfl) rfl ?_
      refine wl_val (q_len SL24 rfl (Vw.len (oS.vw hS28.g0))) rfl ?_
      refine wl_val (g_move (v := .int .i64 0) rfl) rfl ?_
      refine wl_nil ?_
      refine hK551 _ _ ?_
      refine w_block ?_
      obtain ⟨I554, μ555, h0556, hr557⟩ := hm
      refine w_for (σ := List Int × Int) (fun ⟨x552, v553⟩ => [(0, .slice a0 n0 c0), (3, .slice a20 (Int.toNat (sal 1 (p0.length : Int))) (Int.toNat (sal 1 (p0.length : Int)))), (22, .int .i64 (((List.replicate (Int.toNat (sal 1 (p0.length : Int))) (0 : Int)).set 0 1).length : Int)), (23, .int .i64 v553)]) (fun ⟨x552, v553⟩ w' => I554 x552 v553 ∧ Below w.heap.size w w' ∧ Sep w' w.heap.size [oS 3 a20 (Int.toNat (sal 1 (p0.length : Int))) (Int.toNat (sal 1 (p0.length : Int))) (x552 : List Int)]) (fun ⟨x552, v553⟩ => μ555 x552 v553) (((List.replicate (Int.toNat (sal 1 (p0.length : Int))) (0 : Int)).set 0 1), 0) ⟨rfl, rfl, rfl, rfl, trivial⟩ ⟨h0556, hB30, hS28⟩ ?_
      rintro ⟨x552, v553⟩ b_ w558 ⟨hi_, hB559, hS560⟩
      show Wp _ _ _ _ (upds b_ [(0, .slice a0 n0 c0), (3, .slice a20 (Int.toNat (sal 1 (p0.length : Int))) (Int.toNat (sal 1 (p0.length : Int)))), (22, .int .i64 (((List.replicate (Int.toNat (sal 1 (p0.length : Int))) (0 : Int)).set 0 1).length : Int)), (23, .int .i64 v553)]) w558
      have hm := hr557 x552 v553 hi_
      refine w_seq fun K562 hK562 => ?_
      refine w_region ?_
      refine wl_val (g_lss (a := v553) (b := (((List.replicate (Int.toNat (sal 1 (p0.length : Int))) (0 : Int)).set 0 1).length : Int)) rfl rfl) rfl ?_
      refine wl_nil ?_
      refine hK562 _ _ ?_
      refine w_seq fun K563 hK563 => ?_
      refine w_condI (p := v553 < (((List.replicate (Int.toNat (sal 1 (p0.length : Int))) (0 : Int)).set 0 1).length : Int)) (b := (decide (v553 < (((List.replicate (Int.toNat (sal 1 (p0.length : Int))) (0 : Int)).set 0 1).length : Int)))) rfl decide_eq_true_iff (fun h564 => ?_) (fun h564 => ?_)
      · replace hm := hm.1 h564
        refine w_skip ?_
        refine hK563 _ _ ?_
        refine w_cut (σ := List Int) (fun x565 => [(0, .slice a0 n0 c0), (3, .slice a20 (Int.toNat (sal 1 (p0.length : Int))) (Int.toNat (sal 1 (p0.length : Int)))), (22, .int .i64 (((List.replicate (Int.toNat (sal 1 (p0.length : Int))) (0 : Int)).set 0 1).length : Int)), (23, .int .i64 v553)]) (fun x565 w' => m_impl_CountOrders_K0 v553 (fun x552' v553' => I554 x552' v553' ∧ μ555 x552' v553' < μ555 x552 v553) x565 ∧ Below w.heap.size w w' ∧ Sep w' w.heap.size [oS 3 a20 (Int.toNat (sal 1 (p0.length : Int))) (Int.toNat (sal 1 (p0.length : Int))) (x565 : List Int)]) ?_ ?_
        · refine w_block ?_
          refine w_seq fun K567 hK567 => ?_
          refine w_region ?_
          refine wl_val (g_move (v := .int .i64 v553) rfl) rfl ?_
          refine wl_val (g_assign (v := .int .i64 v553) rfl) rfl ?_
          refine wl_nil ?_
          refine hK567 _ _ ?_
          refine w_seq fun K568 hK568 => ?_
          refine w_region ?_
          refine wl_val (g_move (v := .slice a0 n0 c0) rfl) rfl ?_
          refine wl_val (q_len SL26 rfl (Tv.len (hp0.bel hB559))) rfl ?_
          refine wl_val (g_move (v := .int .i64 0) rfl) rfl ?_
          refine wl_nil ?_
          refine hK568 _ _ ?_
          refine w_block ?_
          obtain ⟨I571, μ572, h0573, hr574⟩ := hm
          refine w_for (σ := List Int × Int) (fun ⟨x569, v570⟩ => [(0, .slice a0 n0 c0), (3, .slice a20 (Int.toNat (sal 1 (p0.length : Int))) (Int.toNat (sal 1 (p0.length : Int)))), (4, .int .i64 v553), (22, .int .i64 (((List.replicate (Int.toNat (sal 1 (p0.length : Int))) (0 : Int)).set 0 1).length : Int)), (23, .int .i64 v553), (26, .slice a0 n0 c0), (27, .int .i64 (p0.length : Int)), (28, .int .i64 v570)]) (fun ⟨x569, v570⟩ w' => I571 x569 v570 ∧ Below w.heap.size w w' ∧ Sep w' w.heap.size [oS 3 a20 (Int.toNat (sal 1 (p0.length : Int))) (Int.toNat (sal 1 (p0.length : Int))) (x569 : List Int)]) (fun ⟨x569, v570⟩ => μ572 x569 v570) (x552, 0) ⟨rfl, rfl, rfl, rfl, rfl, rfl, rfl, rfl, trivial⟩ ⟨h0573, hB559, hS560⟩ ?_
          rintro ⟨x569, v570⟩ b_ w575 ⟨hi_, hB576, hS577⟩
          show Wp _ _ _ _ (upds b_ [(0, .slice a0 n0 c0), (3, .slice a20 (Int.toNat (sal 1 (p0.length : Int))) (Int.toNat (sal 1 (p0.length : Int)))), (4, .int .i64 v553), (22, .int .i64 (((List.replicate (Int.toNat (sal 1 (p0.length : Int))) (0 : Int)).set 0 1).length : Int)), (23, .int .i64 v553), (26, .slice a0 n0 c0), (27, .int .i64 (p0.length : Int)), (28, .int .i64 v570)]) w575
          have hm := hr574 x569 v570 hi_
          refine w_seq fun K579 hK579 => ?_
          refine w_region ?_
          refine wl_val (g_lss (a := v570) (b := (p0.length : Int)) rfl rfl) rfl ?_
          refine wl_nil ?_
          refine hK579 _ _ ?_
          refine w_seq fun K580 hK580 => ?_
          refine w_condI (p := v570 < (p0.length : Int)) (b := (decide (v570 < (p0.length : Int)))) rfl decide_eq_true_iff (fun h581 => ?_) (fun h581 => ?_)
          · replace hm := hm.1 h581
            refine w_skip ?_
            refine hK580 _ _ ?_
            refine w_seq fun K582 hK582 => ?_
            refine w_block ?_
            refine w_seq fun K583 hK583 => ?_
            refine w_region ?_
            refine wl_val (g_move (v := .int .i64 v570) rfl) rfl ?_
            obtain ⟨hg584, hm⟩ := hm
            refine wl_val (q_index (i := v570) SL26 rfl rfl (Tv.o (hp0.bel hB576)) (Tv.g (hp0.bel hB576) hg584)) rfl ?_
            refine wl_val (q_loadS (i := v570) (cs := [.int .i64 (p0[(Int.toNat v570)]!.1), .slice ((y0[(Int.toNat v570)]!).2.1.1) ((y0[(Int.toNat v570)]!).2.1.2.2.length) ((y0[(Int.toNat v570)]!).2.1.2.1), .slice ((y0[(Int.toNat v570)]!).2.2.1) ((y0[(Int.toNat v570)]!).2.2.2.2.length) ((y0[(Int.toNat v570)]!).2.2.2.1)]) AG39 (Tv.o (hp0.bel hB576)) (Tv.g (hp0.bel hB576) hg584) (by rw [← Tv.ticks (hp0.bel hB576) hg584]; rfl) rfl) rfl ?_
            refine wl_step rfl (q_alloc (cs := #[.int .i64 0, .slice none 0 0, .slice none 0 0]) ZR39 rfl hS577) ?_
            rintro _ w585 ⟨g586, rfl, hS588, hE587⟩
            have hB590 := hB576.trans (Ext.stp hE587 hS577.base)
            refine wl_val (g_assign (v := .int .i64 v570) rfl) rfl ?_
            refine wl_step rfl (q_storeB (i := 0) (bs' := #[.int .i64 (p0[(Int.toNat v570)]!.1), .slice ((y0[(Int.toNat v570)]!).2.1.1) ((y0[(Int.toNat v570)]!).2.1.2.2.length) ((y0[(Int.toNat v570)]!).2.1.2.1), .slice ((y0[(Int.toNat v570)]!).2.2.1) ((y0[(Int.toNat v570)]!).2.2.2.2.length) ((y0[(Int.toNat v570)]!).2.2.2.1)]) (vs := [.int .i64 (p0[(Int.toNat v570)]!.1), .slice ((y0[(Int.toNat v570)]!).2.1.1) ((y0[(Int.toNat v570)]!).2.1.2.2.length) ((y0[(Int.toNat v570)]!).2.1.2.1), .slice ((y0[(Int.toNat v570)]!).2.2.1) ((y0[(Int.toNat v570)]!).2.2.2.2.length) ((y0[(Int.toNat v570)]!).2.2.2.1)]) hS588 AG39.sz rfl rfl rfl (by simp [Value.oneCell']) (Nat.le_of_ble_eq_true rfl) rfl) ?_
            rintro _ w591 ⟨rfl, hS592, hb593⟩
            have hB594 := hB590.trans hb593
            refine wl_nil ?_
            refine hK583 _ _ ?_
            refine w_seq fun K595 hK595 => ?_
            refine w_region ?_
            refine wl_val (g_move (v := .slice a20 (Int.toNat (sal 1 (p0.length : Int))) (Int.toNat (sal 1 (p0.length : Int)))) rfl) rfl ?_
            refine wl_val (g_move (v := .int .i64 v553) rfl) rfl ?_
            obtain ⟨hg596, hm⟩ := hm
            refine wl_val (q_index (i := v553) SL24 rfl rfl (oS.vw hS592.g1) hg596) rfl ?_
            refine wl_val (q_load (i := v553) (v := .int .i64 (x569[(Int.toNat v553)]!)) ON3 (oS.vw hS592.g1) hg596 rfl rfl) rfl ?_
            refine wl_val (g_gtr (a := x569[(Int.toNat v553)]!) (b := 0) rfl rfl) rfl ?_
            refine wl_val (g_move (v := .bool (decide (x569[(Int.toNat v553)]! > 0))) rfl) rfl ?_
            refine wl_guard (c := (decide (x569[(Int.toNat v553)]! > 0)) = true) (val := .agg #[.int .i64 (p0[(Int.toNat v570)]!.1), .slice ((y0[(Int.toNat v570)]!).2.1.1) ((y0[(Int.toNat v570)]!).2.1.2.2.length) ((y0[(Int.toNat v570)]!).2.1.2.1), .slice ((y0[(Int.toNat v570)]!).2.2.1) ((y0[(Int.toNat v570)]!).2.2.2.2.length) ((y0[(Int.toNat v570)]!).2.2.2.1)]) (b := ((decide (x569[(Int.toNat v553)]! > 0)) == true)) (gv_some rfl rfl rfl) beq_iff_eq (fun hc597 => ?_) ?_
            · have hcq5 : x569[(Int.toNat v553)]! > 0 := (decide_eq_true_iff.mp hc597)
              exact q_loadBS (bs := #[.int .i64 (p0[(Int.toNat v570)]!.1), .slice ((y0[(Int.toNat v570)]!).2.1.1) ((y0[(Int.toNat v570)]!).2.1.2.2.length) ((y0[(Int.toNat v570)]!).2.1.2.1), .slice ((y0[(Int.toNat v570)]!).2.2.1) ((y0[(Int.toNat v570)]!).2.2.2.2.length) ((y0[(Int.toNat v570)]!).2.2.2.1)]) hS592.g0 AG39 rfl
            refine wl_guard (c := (decide (x569[(Int.toNat v553)]! > 0)) = true) (val := .int .i64 v570) (b := ((decide (x569[(Int.toNat v553)]! > 0)) == true)) (gv_some rfl rfl rfl) beq_iff_eq (fun hc598 => ?_) ?_
            · have hcq5 : x569[(Int.toNat v553)]! > 0 := (decide_eq_true_iff.mp hc598)
              exact g_move (v := .int .i64 v570) rfl
            refine wl_guard (c := (decide (x569[(Int.toNat v553)]! > 0)) = true) (val := .int .i64 v553) (b := ((decide (x569[(Int.toNat v553)]! > 0)) == true)) (gv_some rfl rfl rfl) beq_iff_eq (fun hc599 => ?_) ?_
            · have hcq5 : x569[(Int.toNat v553)]! > 0 := (decide_eq_true_iff.mp hc599)
              exact g_move (v := .int .i64 v553) rfl
            obtain ⟨r601, hk602, hm⟩ := hm
            refine wl_guardE (X := Ext) (c := (decide (x569[(Int.toNat v553)]! > 0)) = true) (val := .bool r601) (Ext.refl _) (b := ((decide (x569[(Int.toNat v553)]! > 0)) == true)) (gv_some rfl rfl rfl) beq_iff_eq (fun hc600 => ?_) (fun w603 hE604 => ?_)
            · have hcq5 : x569[(Int.toNat v553)]! > 0 := (decide_eq_true_iff.mp hc600)
              exact (g_call (vs := #[.agg #[.int .i64 (p0[(Int.toNat v570)]!.1), .slice ((y0[(Int.toNat v570)]!).2.1.1) ((y0[(Int.toNat v570)]!).2.1.2.2.length) ((y0[(Int.toNat v570)]!).2.1.2.1), .slice ((y0[(Int.toNat v570)]!).2.2.1) ((y0[(Int.toNat v570)]!).2.2.2.2.length) ((y0[(Int.toNat v570)]!).2.2.2.1)], .int .i64 v570, .int .i64 v553]) CF64 (args3 (if_pos hc600) (if_pos hc600) (if_pos hc600)) ((m_impl_isNext_fn (p0[(Int.toNat v570)]!.1, p0[(Int.toNat v570)]!.2.1, p0[(Int.toNat v570)]!.2.2) ((Tv.rowC0 (hp0.bel hB594) hg584).up hS592) ((Tv.rowC1 (hp0.bel hB594) hg584).up hS592) v570 v553 (hk602 hcq5)).mono fun _ _ ⟨_, h1, h2, h3⟩ => ⟨by rw [h2, h1], h3⟩))
            have hB605 := hB594.trans (Ext.stp hE604 hS592.base)
            have hS606 := hS592.ext hE604
            refine wl_val (g_pick_and (b := (decide (x569[(Int.toNat v553)]! > 0))) (q := r601) rfl rfl) rfl ?_
            refine wl_nil ?_
            refine hK595 _ _ ?_
            refine w_condI (p := ((x569[(Int.toNat v553)]! > 0) ∧ (r601 = true))) (b := ((decide (x569[(Int.toNat v553)]! > 0)) && r601)) rfl (i_and decide_eq_true_iff Iff.rfl) (fun h607 => ?_) (fun h607 => ?_)
            · replace hm := hm.1 h607
              refine w_draw (X := Ext) (Y := Ext) [0, 0, 0, 0, 0, 0, 0, 0, 0, 0, 0, 0, 0, 1] MIX (by decide +kernel) rfl Ext.refl (fun _ _ _ => Ext.trans) (fun _ _ _ => Chg.trans) (fun _ _ h => Ext.chg h _) (fun w608 hE609 => ?_)
              have hB610 := hB605.trans (Ext.stp hE609 hS606.base)
              have hS611 := hS606.ext hE609
              refine ⟨.slice a20 (Int.toNat (sal 1 (p0.length : Int))) (Int.toNat (sal 1 (p0.length : Int))), fun w612 hX613 => od_plain rfl (by have hS614 := hS611.ext hX613; have hB615 := hB610.trans (Ext.stp hX613 hS611.base); exact is_ext (g_move (v := .slice a20 (Int.toNat (sal 1 (p0.length : Int))) (Int.toNat (sal 1 (p0.length : Int)))) rfl)), ?_⟩
              refine ⟨.int .i64 v553, fun w616 hX617 => od_plain rfl (by have hS618 := hS611.ext hX617; have hB619 := hB610.trans (Ext.stp hX617 hS611.base); exact is_ext (g_move (v := .int .i64 v553) rfl)), ?_⟩
              refine ⟨.int .i64 v570, fun w620 hX621 => od_plain rfl (by have hS622 := hS611.ext hX621; have hB623 := hB610.trans (Ext.stp hX621 hS611.base); exact is_ext (g_move (v := .int .i64 v570) rfl)), ?_⟩
              obtain ⟨hg628, hm⟩ := hm
              obtain ⟨hg629, hm⟩ := hm
              refine ⟨.int .i64 (sal 1 v570), fun w624 hX625 => od_plain rfl (by have hS626 := hS611.ext hX625; have hB627 := hB610.trans (Ext.stp hX625 hS611.base); exact is_ext (g_shl (a := 1) (b := v570) rfl rfl hg628 hg629)), ?_⟩
              obtain ⟨hg634, hm⟩ := hm
              refine ⟨.int .i64 (bor v553 (sal 1 v570)), fun w630 hX631 => od_plain rfl (by have hS632 := hS611.ext hX631; have hB633 := hB610.trans (Ext.stp hX631 hS611.base); exact is_ext (g_bor (a := v553) (b := (sal 1 v570)) rfl rfl hg634)), ?_⟩
              obtain ⟨hg639, hm⟩ := hm
              refine ⟨.pointer (some ((adr a20).add ((Int.toNat (bor v553 (sal 1 v570))) * El.m Int))), fun w635 hX636 => od_plain rfl (by have hS637 := hS611.ext hX636; have hB638 := hB610.trans (Ext.stp hX636 hS611.base); exact is_ext (q_index (i := (bor v553 (sal 1 v570))) SL24 rfl rfl (oS.vw hS637.g1) hg639)), ?_⟩
              refine ⟨.int .i64 (x569[(Int.toNat (bor v553 (sal 1 v570)))]!), fun w640 hX641 => od_plain rfl (by have hS642 := hS611.ext hX641; have hB643 := hB610.trans (Ext.stp hX641 hS611.base); exact is_ext (q_load (i := (bor v553 (sal 1 v570))) (v := .int .i64 (x569[(Int.toNat (bor v553 (sal 1 v570)))]!)) ON3 (oS.vw hS642.g1) hg639 rfl rfl)), ?_⟩
              refine ⟨.slice a20 (Int.toNat (sal 1 (p0.length : Int))) (Int.toNat (sal 1 (p0.length : Int))), fun w644 hX645 => od_plain rfl (by have hS646 := hS611.ext hX645; have hB647 := hB610.trans (Ext.stp hX645 hS611.base); exact is_ext (g_move (v := .slice a20 (Int.toNat (sal 1 (p0.length : Int))) (Int.toNat (sal 1 (p0.length : Int)))) rfl)), ?_⟩
              refine ⟨.int .i64 v553, fun w648 hX649 => od_plain rfl (by have hS650 := hS611.ext hX649; have hB651 := hB610.trans (Ext.stp hX649 hS611.base); exact is_ext (g_move (v := .int .i64 v553) rfl)), ?_⟩
              obtain ⟨hg656, hm⟩ := hm
              refine ⟨.pointer (some ((adr a20).add ((Int.toNat v553) * El.m Int))), fun w652 hX653 => od_plain rfl (by have hS654 := hS611.ext hX653; have hB655 := hB610.trans (Ext.stp hX653 hS611.base); exact is_ext (q_index (i := v553) SL24 rfl rfl (oS.vw hS654.g1) hg656)), ?_⟩
              refine ⟨.int .i64 (x569[(Int.toNat v553)]!), fun w657 hX658 => od_plain rfl (by have hS659 := hS611.ext hX658; have hB660 := hB610.trans (Ext.stp hX658 hS611.base); exact is_ext (q_load (i := v553) (v := .int .i64 (x569[(Int.toNat v553)]!)) ON3 (oS.vw hS659.g1) hg656 rfl rfl)), ?_⟩
              obtain ⟨hg665, hm⟩ := hm
              refine ⟨.int .i64 (x569[(Int.toNat (bor v553 (sal 1 v570)))]! + x569[(Int.toNat v553)]!), fun w661 hX662 => od_plain rfl (by have hS663 := hS611.ext hX662; have hB664 := hB610.trans (Ext.stp hX662 hS611.base); exact is_ext (g_add (a := x569[(Int.toNat (bor v553 (sal 1 v570)))]!) (b := x569[(Int.toNat v553)]!) rfl rfl hg665)), ?_⟩
              obtain ⟨hg670, hm⟩ := hm
              refine ⟨.pointer (some ((adr a20).add ((Int.toNat (bor v553 (sal 1 v570))) * El.m Int))), fun w666 hX667 => od_plain rfl (by have hS668 := hS611.ext hX667; have hB669 := hB610.trans (Ext.stp hX667 hS611.base); exact is_ext (q_index (i := (bor v553 (sal 1 v570))) SL24 rfl rfl (oS.vw hS668.g1) hg670)), ?_⟩
              intro w671 hX672
              have hB673 := hB610.trans (Ext.stp hX672 hS611.base)
              have hS674 := hS611.ext hX672
              have hS678 := hS674.f1
              refine ⟨_, od_plain rfl (q_store (i := (bor v553 (sal 1 v570))) (v := ((x569[(Int.toNat (bor v553 (sal 1 v570)))]! + x569[(Int.toNat v553)]!) : Int)) hS678 ON3.sz hg670 rfl rfl rfl), ?_⟩
              rintro _ w675 ⟨rfl, hS676, hb677⟩
              have hB679 := hB673.trans hb677
              intro w680 hX681
              have hB682 := hB679.trans (Ext.stp hX681 hS676.base)
              have hS683 := hS676.ext hX681
              refine hK582 _ _ ?_
              refine w_region ?_
              obtain ⟨hg684, hm⟩ := hm
              refine wl_val (g_add (a := v570) (b := 1) rfl rfl hg684) rfl ?_
              refine wl_val (g_move (v := .int .i64 (v570 + 1)) rfl) rfl ?_
              refine wl_nil ?_
              have hS685 := hS683.f1
              have hS686 := hS685.tail
              exact ⟨((x569.set (Int.toNat (bor v553 (sal 1 v570))) (x569[(Int.toNat (bor v553 (sal 1 v570)))]! + x569[(Int.toNat v553)]!)), (v570 + 1)), hm.2, ⟨rfl, rfl, rfl, rfl, rfl, rfl, rfl, rfl, trivial⟩, ⟨hm.1, hB682, hS686⟩⟩
            · replace hm := hm.2 h607
              refine w_skip ?_
              refine hK582 _ _ ?_
              refine w_region ?_
              obtain ⟨hg687, hm⟩ := hm
              refine wl_val (g_add (a := v570) (b := 1) rfl rfl hg687) rfl ?_
              refine wl_val (g_move (v := .int .i64 (v570 + 1)) rfl) rfl ?_
              refine wl_nil ?_
              have hS688 := hS606.tail
              exact ⟨(x569, (v570 + 1)), hm.2, ⟨rfl, rfl, rfl, rfl, rfl, rfl, rfl, rfl, trivial⟩, ⟨hm.1, hB605, hS688⟩⟩
          · replace hm := hm.2 h581
            refine w_exit ?_
            exact ⟨(x569), ⟨rfl, rfl, rfl, rfl, trivial⟩, ⟨hm, hB576, hS577⟩⟩
        · rintro x565 b_ w689 ⟨hm, hB690, hS691⟩
          show Wp _ _ _ _ (upds b_ [(0, .slice a0 n0 c0), (3, .slice a20 (Int.toNat (sal 1 (p0.length : Int))) (Int.toNat (sal 1 (p0.length : Int)))), (22, .int .i64 (((List.replicate (Int.toNat (sal 1 (p0.length : Int))) (0 : Int)).set 0 1).length : Int)), (23, .int .i64 v553)]) w689
          refine w_region ?_
          obtain ⟨hg692, hm⟩ := hm
          refine wl_val (g_add (a := v553) (b := 1) rfl rfl hg692) rfl ?_
          refine wl_val (g_move (v := .int .i64 (v553 + 1)) rfl) rfl ?_
          refine wl_nil ?_
          exact ⟨(x565, (v553 + 1)), hm.2, ⟨rfl, rfl, rfl, rfl, trivial⟩, ⟨hm.1, hB690, hS691⟩⟩
      · replace hm := hm.2 h564
        refine w_exit ?_
        exact ⟨(x552), ⟨rfl, trivial⟩, ⟨hm, hB559, hS560⟩⟩
    · rintro x549 b_ w693 ⟨hm, hB694, hS695⟩
      show Wp _ _ _ _ (upds b_ [(3, .slice a20 (Int.toNat (sal 1 (p0.length : Int))) (Int.toNat (sal 1 (p0.length : Int))))]) w693
      refine w_seq fun K696 hK696 => ?_
      refine w_region ?_
      refine wl_val (g_move (v := .slice a20 (Int.toNat (sal 1 (p0.length : Int))) (Int.toNat (sal 1 (p0.length : Int)))) rfl) rfl ?_
      refine wl_val (g_move (v := .slice a20 (Int.toNat (sal 1 (p0.length : Int))) (Int.toNat (sal 1 (p0.length : Int)))) rfl) rfl ?_
      refine wl_val (q_len SL24 rfl (Vw.len (oS.vw hS695.g0))) rfl ?_
      obtain ⟨hg697, hm⟩ := hm
      refine wl_val (g_sub (a := (x549.length : Int)) (b := 1) rfl rfl hg697) rfl ?_
      obtain ⟨hg698, hm⟩ := hm
      refine wl_val (q_index (i := ((x549.length : Int) - 1)) SL24 rfl rfl (oS.vw hS695.g0) hg698) rfl ?_
      refine wl_val (q_load (i := ((x549.length : Int) - 1)) (v := .int .i64 (x549[(Int.toNat ((x549.length : Int) - 1))]!)) ON3 (oS.vw hS695.g0) hg698 rfl rfl) rfl ?_
      refine wl_val (g_assign (v := .int .i64 (x549[(Int.toNat ((x549.length : Int) - 1))]!)) rfl) rfl ?_
      refine wl_nil ?_
      refine hK696 _ _ ?_
      refine w_ret ?_
      repeat first | with_reducible refine q_then ?_ | with_reducible refine q_block ?_
      exact ret1 rfl (by decide) ⟨_, hm, rfl, toExt hB694⟩

theorem m_laws_sameInts_fn {w : World} {a0 : Option Addr} {n0 c0 : Nat} {p0 : List Int} {a1 : Option Addr} {n1 c1 : Nat} {p1 : List Int} {Q : Bool → Prop} (hp0 : Vw w.heap.size w a0 n0 c0 p0) (hp1 : Vw w.heap.size w a1 n1 c1 p1) (hm : m_laws_sameInts p0 p1 Q) :
    Fn Try.prog 34 #[.slice a0 n0 c0, .slice a1 n1 c1] w (fun v w' => ∃ (r0 : Bool), Q r0 ∧ v = .bool r0 ∧ Ext w w') := by
  unfold m_laws_sameInts at hm
  have hB0 := Below.refl w.heap.size w
  have hS0 : Sep w w.heap.size [] := Sep.nil (Nat.le_refl _)
  refine fn_of_wp Try.func34 rfl (by kernel_rfl) (Nat.le_of_ble_eq_true rfl) ?_
  refine w_seq fun K1 hK1 => ?_
  refine w_region ?_
  refine wl_val (g_assign (v := .bool false) rfl) rfl ?_
  refine wl_nil ?_
  refine hK1 _ _ ?_
  refine w_seq fun K2 hK2 => ?_
  refine w_seq fun K3 hK3 => ?_
  refine w_region ?_
  refine wl_val (g_move (v := .slice a0 n0 c0) rfl) rfl ?_
  refine wl_val (q_len SL24 rfl (Vw.len (hp0.bel hB0))) rfl ?_
  refine wl_val (g_move (v := .slice a1 n1 c1) rfl) rfl ?_
  refine wl_val (q_len SL24 rfl (Vw.len (hp1.bel hB0))) rfl ?_
  refine wl_val (g_neq (a := (p0.length : Int)) (b := (p1.length : Int)) rfl rfl) rfl ?_
  refine wl_nil ?_
  refine hK3 _ _ ?_
  refine w_condI (p := (p0.length : Int) ≠ (p1.length : Int)) (b := (decide ((p0.length : Int) ≠ (p1.length : Int)))) rfl decide_eq_true_iff (fun h4 => ?_) (fun h4 => ?_)
  · replace hm := hm.1 h4
    refine w_seq fun K5 hK5 => ?_
    refine w_region ?_
    refine wl_val (g_assign (v := .bool false) rfl) rfl ?_
    refine wl_nil ?_
    refine hK5 _ _ ?_
    refine w_ret ?_
    repeat first | with_reducible refine q_then ?_ | with_reducible refine q_block ?_
    exact ret1 rfl (by decide) ⟨_, hm, rfl, toExt hB0⟩
  · replace hm := hm.2 h4
    refine w_skip ?_
    refine hK2 _ _ ?_
    refine w_cut (σ := Unit) (fun _ => []) (fun _ w' => m_laws_sameInts_K0 Q ∧ Below w.heap.size w w' ∧ Sep w' w.heap.size []) ?_ ?_
    · refine w_seq fun K7 hK7 => ?_
      refine w_region ?_
      refine wl_val (g_assign (v := .int .i64 0) rfl) rfl ?_
      refine wl_nil ?_
      refine hK7 _ _ ?_
      refine w_block ?_
      obtain ⟨I71, μ72, h073, hr74⟩ := hm
      refine w_for (σ := Int) (fun v70 => [(0, .slice a0 n0 c0), (1, .slice a1 n1 c1), (5, .int .i64 v70)]) (fun v70 w' => I71 v70 ∧ Below w.heap.size w w' ∧ Sep w' w.heap.size []) (fun v70 => μ72 v70) (0) ⟨rfl, rfl, rfl, trivial⟩ ⟨h073, hB0, hS0⟩ ?_
      rintro v70 b_ w75 ⟨hi_, hB76, hS77⟩
      show Wp _ _ _ _ (upds b_ [(0, .slice a0 n0 c0), (1, .slice a1 n1 c1), (5, .int .i64 v70)]) w75
      have hm := hr74 v70 hi_
      refine w_seq fun K79 hK79 => ?_
      refine w_seq fun K80 hK80 => ?_
      refine w_region ?_
      refine wl_val (g_move (v := .int .i64 v70) rfl) rfl ?_
      refine wl_val (g_move (v := .slice a0 n0 c0) rfl) rfl ?_
      refine wl_val (q_len SL24 rfl (Vw.len (hp0.bel hB76))) rfl ?_
      refine wl_val (g_lss (a := v70) (b := (p0.length : Int)) rfl rfl) rfl ?_
      refine wl_nil ?_
      refine hK80 _ _ ?_
      refine w_condI (p := v70 < (p0.length : Int)) (b := (decide (v70 < (p0.length : Int)))) rfl decide_eq_true_iff (fun h81 => ?_) (fun h81 => ?_)
      · replace hm := hm.1 h81
        refine w_skip ?_
        refine hK79 _ _ ?_
        refine w_seq fun K82 hK82 => ?_
        refine w_block ?_
        refine w_seq fun K83 hK83 => ?_
        refine w_draw (X := Ext) (Y := Ext) [] MIX (by decide +kernel) rfl Ext.refl (fun _ _ _ => Ext.trans) (fun _ _ _ => Chg.trans) (fun _ _ h => Ext.chg h _) (fun w84 hE85 => ?_)
        have hB86 := hB76.trans (Ext.stp hE85 hS77.base)
        have hS87 := hS77.ext hE85
        refine ⟨.slice a0 n0 c0, fun w88 hX89 => od_plain rfl (by have hS90 := hS87.ext hX89; have hB91 := hB86.trans (Ext.stp hX89 hS87.base); exact is_ext (g_move (v := .slice a0 n0 c0) rfl)), ?_⟩
        refine ⟨.int .i64 v70, fun w92 hX93 => od_plain rfl (by have hS94 := hS87.ext hX93; have hB95 := hB86.trans (Ext.stp hX93 hS87.base); exact is_ext (g_move (v := .int .i64 v70) rfl)), ?_⟩
        obtain ⟨hg100, hm⟩ := hm
        refine ⟨.pointer (some ((adr a0).add ((Int.toNat v70) * El.m Int))), fun w96 hX97 => od_plain rfl (by have hS98 := hS87.ext hX97; have hB99 := hB86.trans (Ext.stp hX97 hS87.base); exact is_ext (q_index (i := v70) SL24 rfl rfl (hp0.bel hB99) hg100)), ?_⟩
        refine ⟨.int .i64 (p0[(Int.toNat v70)]!), fun w101 hX102 => od_plain rfl (by have hS103 := hS87.ext hX102; have hB104 := hB86.trans (Ext.stp hX102 hS87.base); exact is_ext (q_load (i := v70) (v := .int .i64 (p0[(Int.toNat v70)]!)) ON3 (hp0.bel hB104) hg100 rfl rfl)), ?_⟩
        refine ⟨.slice a1 n1 c1, fun w105 hX106 => od_plain rfl (by have hS107 := hS87.ext hX106; have hB108 := hB86.trans (Ext.stp hX106 hS87.base); exact is_ext (g_move (v := .slice a1 n1 c1) rfl)), ?_⟩
        refine ⟨.int .i64 v70, fun w109 hX110 => od_plain rfl (by have hS111 := hS87.ext hX110; have hB112 := hB86.trans (Ext.stp hX110 hS87.base); exact is_ext (g_move (v := .int .i64 v70) rfl)), ?_⟩
        obtain ⟨hg117, hm⟩ := hm
        refine ⟨.pointer (some ((adr a1).add ((Int.toNat v70) * El.m Int))), fun w113 hX114 => od_plain rfl (by have hS115 := hS87.ext hX114; have hB116 := hB86.trans (Ext.stp hX114 hS87.base); exact is_ext (q_index (i := v70) SL24 rfl rfl (hp1.bel hB116) hg117)), ?_⟩
        refine ⟨.int .i64 (p1[(Int.toNat v70)]!), fun w118 hX119 => od_plain rfl (by have hS120 := hS87.ext hX119; have hB121 := hB86.trans (Ext.stp hX119 hS87.base); exact is_ext (q_load (i := v70) (v := .int .i64 (p1[(Int.toNat v70)]!)) ON3 (hp1.bel hB121) hg117 rfl rfl)), ?_⟩
        refine ⟨.bool (decide (p0[(Int.toNat v70)]! ≠ p1[(Int.toNat v70)]!)), fun w122 hX123 => od_plain rfl (by have hS124 := hS87.ext hX123; have hB125 := hB86.trans (Ext.stp hX123 hS87.base); exact is_ext (g_neq (a := p0[(Int.toNat v70)]!) (b := p1[(Int.toNat v70)]!) rfl rfl)), ?_⟩
        intro w126 hX127
        have hB128 := hB86.trans (Ext.stp hX127 hS87.base)
        have hS129 := hS87.ext hX127
        refine hK83 _ _ ?_
        refine w_condI (p := p0[(Int.toNat v70)]! ≠ p1[(Int.toNat v70)]!) (b := (decide (p0[(Int.toNat v70)]! ≠ p1[(Int.toNat v70)]!))) rfl decide_eq_true_iff (fun h130 => ?_) (fun h130 => ?_)
        · replace hm := hm.1 h130
          refine w_seq fun K131 hK131 => ?_
          refine w_region ?_
          refine wl_val (g_assign (v := .bool false) rfl) rfl ?_
          refine wl_nil ?_
          refine hK131 _ _ ?_
          refine w_ret ?_
          repeat first | with_reducible refine q_then ?_ | with_reducible refine q_block ?_
          exact ret1 rfl (by decide) ⟨_, hm, rfl, toExt hB128⟩
        · replace hm := hm.2 h130
          refine w_skip ?_
          refine hK82 _ _ ?_
          refine w_region ?_
          refine wl_val (g_move (v := .int .i64 v70) rfl) rfl ?_
          obtain ⟨hg132, hm⟩ := hm
          refine wl_val (g_add (a := v70) (b := 1) rfl rfl hg132) rfl ?_
          refine wl_val (g_assign (v := .int .i64 (v70 + 1)) rfl) rfl ?_
          refine wl_nil ?_
          exact ⟨((v70 + 1)), hm.2, ⟨rfl, rfl, rfl, trivial⟩, ⟨hm.1, hB128, hS129⟩⟩
      · replace hm := hm.2 h81
        refine w_exit ?_
        exact ⟨(), trivial, ⟨hm, hB76, hS77⟩⟩
    · rintro _ b_ w133 ⟨hm, hB134, hS135⟩
      show Wp _ _ _ _ (upds b_ []) w133
      refine w_seq fun K136 hK136 => ?_
      refine w_region ?_
      refine wl_val (g_assign (v := .bool true) rfl) rfl ?_
      refine wl_nil ?_
      refine hK136 _ _ ?_
      refine w_ret ?_
      repeat first | with_reducible refine q_then ?_ | with_reducible refine q_block ?_
      exact ret1 rfl (by decide) ⟨_, hm, rfl, toExt hB134⟩

end Go.Proofs.Ythmemoealgieaaa
