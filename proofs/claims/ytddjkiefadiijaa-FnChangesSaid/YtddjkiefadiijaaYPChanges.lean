/- The walks: the code does what its model says. Printed by a program (gen2.py). No statement of the claim stands here. -/
import Derived.Test.YtddjkiefadiijaaTri
import Derived.Test.YtddjkiefadiijaaFacts2
import Derived.Test.YtddjkiefadiijaaSop
import Derived.Test.YtddjkiefadiijaaFacts
import Derived.Test.YtddjkiefadiijaaMG
import Derived.Test.YtddjkiefadiijaaWG1
import Derived.Test.YtddjkiefadiijaaWG2
import Derived.Test.YtddjkiefadiijaaWG3
import Derived.Test.YtddjkiefadiijaaWG4
namespace Go.Proofs.Ytddjkiefadiijaa
open Go Go.RowKit
set_option maxRecDepth 100000
theorem m_laws_FnChanges_fn {w : World} {a0 : Option Addr} {n0 c0 : Nat} {p0 : List Byte} {Q : Bool → Prop} (hp0 : Vw w.heap.size w a0 n0 c0 p0) (hm : m_laws_FnChanges p0 Q) :
    Fn Try.prog 11 #[.slice a0 n0 c0] w (fun v w' => ∃ (r0 : Bool), Q r0 ∧ v = .bool r0 ∧ Ext w w') := by
  unfold m_laws_FnChanges at hm
  have hB0 := Below.refl w.heap.size w
  have hS0 : Sep w w.heap.size [] := Sep.nil (Nat.le_refl _)
  refine fn_of_wp Try.func11 rfl (by kernel_rfl) (Nat.le_of_ble_eq_true rfl) ?_
  refine w_seq fun K1 hK1 => ?_
  refine w_region ?_
  refine wl_val (g_assign (v := .bool false) rfl) rfl ?_
  refine wl_nil ?_
  refine hK1 _ _ ?_
  refine w_seq fun K2 hK2 => ?_
  refine w_seq fun K3 hK3 => ?_
  refine w_region ?_
  refine wl_val (g_move (v := .slice a0 n0 c0) rfl) rfl ?_
  refine wl_step rfl (g_call (vs := #[.slice a0 n0 c0]) CF37 (args1 rfl) (m_laws_big_fn ((hp0.bel hB0).up hS0) hm)) ?_
  rintro _ w4 ⟨r7, hm, rfl, hE5⟩
  have hB8 := hB0.trans (Ext.stp hE5 hS0.base)
  have hS9 := hS0.ext hE5
  refine wl_nil ?_
  refine hK3 _ _ ?_
  refine w_condI (p := r7 = true) (b := r7) rfl Iff.rfl (fun h10 => ?_) (fun h10 => ?_)
  · replace hm := hm.1 h10
    refine w_seq fun K11 hK11 => ?_
    refine w_region ?_
    refine wl_val (g_assign (v := .bool true) rfl) rfl ?_
    refine wl_nil ?_
    refine hK11 _ _ ?_
    refine w_ret ?_
    repeat first | with_reducible refine q_then ?_ | with_reducible refine q_block ?_
    exact ret1 rfl (by decide) ⟨_, hm, rfl, toExt hB8⟩
  · replace hm := hm.2 h10
    refine w_skip ?_
    refine hK2 _ _ ?_
    refine w_seq fun K12 hK12 => ?_
    refine w_region ?_
    refine wl_val (g_move (v := .slice a0 n0 c0) rfl) rfl ?_
    refine wl_step rfl (g_call (vs := #[.slice a0 n0 c0]) CF50 (args1 rfl) (m_spec_DrawNight_fn ((hp0.bel hB8).up hS9) hm)) ?_
    rintro _ w13 ⟨r16, a17, n18, c19, y20, r25, a26, n27, c28, y29, hm, he21, he30, rfl, hE14, hN15⟩
    have hS34 := hS9.call4 hE14 hN15
    have hB35 := hB8.trans (Ext.stp hE14 hS9.base)
    refine wl_val (g_move (v := .tuple #[.slice a17 n18 c19, .slice a26 n27 c28]) rfl) rfl ?_
    refine wl_val (g_extract (vs := #[.slice a17 n18 c19, .slice a26 n27 c28]) rfl rfl) rfl ?_
    refine wl_val (g_extract (vs := #[.slice a17 n18 c19, .slice a26 n27 c28]) rfl rfl) rfl ?_
    refine wl_val (g_assign (v := .slice a17 n18 c19) rfl) rfl ?_
    refine wl_val (g_assign (v := .slice a26 n27 c28) rfl) rfl ?_
    refine wl_nil ?_
    refine hK12 _ _ ?_
    refine w_seq fun K36 hK36 => ?_
    refine w_region ?_
    refine wl_val (g_move (v := .slice a17 n18 c19) rfl) rfl ?_
    refine wl_val (g_move (v := .slice a26 n27 c28) rfl) rfl ?_
    refine wl_step rfl (g_call (vs := #[.slice a17 n18 c19, .slice a26 n27 c28]) CF34 (args2 rfl rfl) (m_impl_FewestChanges_fn (oT.vw hS34.g0 hS34.g1 he21) (oT.vw hS34.g2 hS34.g3 he30) hm)) ?_
    rintro _ w37 ⟨r40, hm, rfl, hE38⟩
    have hB41 := hB35.trans (Ext.stp hE38 hS34.base)
    have hS42 := hS34.ext hE38
    refine wl_val (g_assign (v := .int .i64 r40) rfl) rfl ?_
    refine wl_nil ?_
    refine hK36 _ _ ?_
    refine w_seq fun K43 hK43 => ?_
    refine w_region ?_
    refine wl_val (g_move (v := .slice a17 n18 c19) rfl) rfl ?_
    refine wl_val (g_move (v := .slice a26 n27 c28) rfl) rfl ?_
    refine wl_step rfl (g_call (vs := #[.slice a17 n18 c19, .slice a26 n27 c28]) CF36 (args2 rfl rfl) (m_impl_BestNight_fn (oT.vw hS42.g0 hS42.g1 he21) (oT.vw hS42.g2 hS42.g3 he30) hm)) ?_
    rintro _ w44 ⟨r47, a48, n49, c50, y51, r56, hm, he52, rfl, hE45, hN46⟩
    have hS57 := hS42.call2 hE45 hN46
    have hB58 := hB41.trans (Ext.stp hE45 hS42.base)
    refine wl_val (g_move (v := .tuple #[.slice a48 n49 c50, .bool r56]) rfl) rfl ?_
    refine wl_val (g_extract (vs := #[.slice a48 n49 c50, .bool r56]) rfl rfl) rfl ?_
    refine wl_val (g_extract (vs := #[.slice a48 n49 c50, .bool r56]) rfl rfl) rfl ?_
    refine wl_val (g_assign (v := .slice a48 n49 c50) rfl) rfl ?_
    refine wl_val (g_assign (v := .bool r56) rfl) rfl ?_
    refine wl_nil ?_
    refine hK43 _ _ ?_
    refine w_seq fun K59 hK59 => ?_
    refine w_seq fun K60 hK60 => ?_
    refine w_region ?_
    refine wl_val (g_move (v := .bool r56) rfl) rfl ?_
    refine wl_val (g_move (v := .int .i64 r40) rfl) rfl ?_
    refine wl_val (g_geq (a := r40) (b := 0) rfl rfl) rfl ?_
    refine wl_val (g_neq_b (a := r56) (b := (decide (r40 ≥ 0))) UB rfl rfl) rfl ?_
    refine wl_val (g_move (v := .bool (decide ((r56) ≠ (decide (r40 ≥ 0))))) rfl) rfl ?_
    refine wl_guard (c := (decide ((r56) ≠ (decide (r40 ≥ 0)))) = false) (val := .bool r56) (b := ((decide ((r56) ≠ (decide (r40 ≥ 0)))) == false)) (gv_some rfl rfl rfl) beq_iff_eq (fun hc61 => ?_) ?_
    · have hcq0 : ¬ ((r56) ≠ (decide (r40 ≥ 0))) := (i_neg decide_eq_true_iff hc61)
      exact g_move (v := .bool r56) rfl
    refine wl_guard (c := (decide ((r56) ≠ (decide (r40 ≥ 0)))) = false) (val := .bool r56) (b := ((decide ((r56) ≠ (decide (r40 ≥ 0)))) == false)) (gv_some rfl rfl rfl) beq_iff_eq (fun hc62 => ?_) ?_
    · have hcq0 : ¬ ((r56) ≠ (decide (r40 ≥ 0))) := (i_neg decide_eq_true_iff hc62)
      exact g_move (v := .bool r56) (if_pos hc62)
    refine wl_guard (c := ((decide ((r56) ≠ (decide (r40 ≥ 0)))) = false) ∧ r56 = true) (val := .slice a48 n49 c50) (b := decide (((decide ((r56) ≠ (decide (r40 ≥ 0)))) = false) ∧ r56 = true)) (gv_gd rfl rfl rfl) decide_eq_true_iff (fun hc63 => ?_) ?_
    · have hcq1 : (¬ ((r56) ≠ (decide (r40 ≥ 0)))) ∧ (r56 = true) := ⟨(i_neg decide_eq_true_iff (hc63).1), Iff.rfl.mp (hc63).2⟩
      have hcq0 := (hcq1).1
      exact g_move (v := .slice a48 n49 c50) rfl
    refine wl_guard (c := ((decide ((r56) ≠ (decide (r40 ≥ 0)))) = false) ∧ r56 = true) (val := .int .i64 (r47.length : Int)) (b := decide (((decide ((r56) ≠ (decide (r40 ≥ 0)))) = false) ∧ r56 = true)) (gv_gd rfl rfl rfl) decide_eq_true_iff (fun hc64 => ?_) ?_
    · have hcq1 : (¬ ((r56) ≠ (decide (r40 ≥ 0)))) ∧ (r56 = true) := ⟨(i_neg decide_eq_true_iff (hc64).1), Iff.rfl.mp (hc64).2⟩
      have hcq0 := (hcq1).1
      exact q_len SL37 (if_pos hc64) (Tv.len (oT.vw hS57.g0 hS57.g1 he52))
    refine wl_guard (c := ((decide ((r56) ≠ (decide (r40 ≥ 0)))) = false) ∧ r56 = true) (val := .slice a26 n27 c28) (b := decide (((decide ((r56) ≠ (decide (r40 ≥ 0)))) = false) ∧ r56 = true)) (gv_gd rfl rfl rfl) decide_eq_true_iff (fun hc65 => ?_) ?_
    · have hcq1 : (¬ ((r56) ≠ (decide (r40 ≥ 0)))) ∧ (r56 = true) := ⟨(i_neg decide_eq_true_iff (hc65).1), Iff.rfl.mp (hc65).2⟩
      have hcq0 := (hcq1).1
      exact g_move (v := .slice a26 n27 c28) rfl
    refine wl_guard (c := ((decide ((r56) ≠ (decide (r40 ≥ 0)))) = false) ∧ r56 = true) (val := .int .i64 (r25.length : Int)) (b := decide (((decide ((r56) ≠ (decide (r40 ≥ 0)))) = false) ∧ r56 = true)) (gv_gd rfl rfl rfl) decide_eq_true_iff (fun hc66 => ?_) ?_
    · have hcq1 : (¬ ((r56) ≠ (decide (r40 ≥ 0)))) ∧ (r56 = true) := ⟨(i_neg decide_eq_true_iff (hc66).1), Iff.rfl.mp (hc66).2⟩
      have hcq0 := (hcq1).1
      exact q_len SL37 (if_pos hc66) (Tv.len (oT.vw hS57.g4 hS57.g5 he30))
    refine wl_guard (c := ((decide ((r56) ≠ (decide (r40 ≥ 0)))) = false) ∧ r56 = true) (val := .bool (decide ((r47.length : Int) ≠ (r25.length : Int)))) (b := decide (((decide ((r56) ≠ (decide (r40 ≥ 0)))) = false) ∧ r56 = true)) (gv_gd rfl rfl rfl) decide_eq_true_iff (fun hc67 => ?_) ?_
    · have hcq1 : (¬ ((r56) ≠ (decide (r40 ≥ 0)))) ∧ (r56 = true) := ⟨(i_neg decide_eq_true_iff (hc67).1), Iff.rfl.mp (hc67).2⟩
      have hcq0 := (hcq1).1
      exact g_neq (a := (r47.length : Int)) (b := (r25.length : Int)) (if_pos hc67) (if_pos hc67)
    refine wl_guard (c := ((decide ((r56) ≠ (decide (r40 ≥ 0)))) = false) ∧ r56 = true) (val := .bool (decide ((r47.length : Int) ≠ (r25.length : Int)))) (b := decide (((decide ((r56) ≠ (decide (r40 ≥ 0)))) = false) ∧ r56 = true)) (gv_gd rfl rfl rfl) decide_eq_true_iff (fun hc68 => ?_) ?_
    · have hcq1 : (¬ ((r56) ≠ (decide (r40 ≥ 0)))) ∧ (r56 = true) := ⟨(i_neg decide_eq_true_iff (hc68).1), Iff.rfl.mp (hc68).2⟩
      have hcq0 := (hcq1).1
      exact g_move (v := .bool (decide ((r47.length : Int) ≠ (r25.length : Int)))) (if_pos hc68)
    refine wl_guard (c := (((decide ((r56) ≠ (decide (r40 ≥ 0)))) = false) ∧ r56 = true) ∧ (decide ((r47.length : Int) ≠ (r25.length : Int))) = false) (val := .slice a26 n27 c28) (b := decide ((((decide ((r56) ≠ (decide (r40 ≥ 0)))) = false) ∧ r56 = true) ∧ (decide ((r47.length : Int) ≠ (r25.length : Int))) = false)) (gv_gd rfl rfl rfl) decide_eq_true_iff (fun hc69 => ?_) ?_
    · have hcq2 : ((¬ ((r56) ≠ (decide (r40 ≥ 0)))) ∧ (r56 = true)) ∧ (¬ ((r47.length : Int) ≠ (r25.length : Int))) := ⟨⟨(i_neg decide_eq_true_iff ((hc69).1).1), Iff.rfl.mp ((hc69).1).2⟩, i_neg decide_eq_true_iff (hc69).2⟩
      have hcq1 := (hcq2).1
      have hcq0 := (hcq1).1
      exact g_move (v := .slice a26 n27 c28) rfl
    refine wl_guard (c := (((decide ((r56) ≠ (decide (r40 ≥ 0)))) = false) ∧ r56 = true) ∧ (decide ((r47.length : Int) ≠ (r25.length : Int))) = false) (val := .slice a48 n49 c50) (b := decide ((((decide ((r56) ≠ (decide (r40 ≥ 0)))) = false) ∧ r56 = true) ∧ (decide ((r47.length : Int) ≠ (r25.length : Int))) = false)) (gv_gd rfl rfl rfl) decide_eq_true_iff (fun hc70 => ?_) ?_
    · have hcq2 : ((¬ ((r56) ≠ (decide (r40 ≥ 0)))) ∧ (r56 = true)) ∧ (¬ ((r47.length : Int) ≠ (r25.length : Int))) := ⟨⟨(i_neg decide_eq_true_iff ((hc70).1).1), Iff.rfl.mp ((hc70).1).2⟩, i_neg decide_eq_true_iff (hc70).2⟩
      have hcq1 := (hcq2).1
      have hcq0 := (hcq1).1
      exact g_move (v := .slice a48 n49 c50) rfl
    obtain ⟨r72, hk73, hm⟩ := hm
    refine wl_guardE (X := Ext) (c := (((decide ((r56) ≠ (decide (r40 ≥ 0)))) = false) ∧ r56 = true) ∧ (decide ((r47.length : Int) ≠ (r25.length : Int))) = false) (val := .int .i64 r72) (Ext.refl _) (b := decide ((((decide ((r56) ≠ (decide (r40 ≥ 0)))) = false) ∧ r56 = true) ∧ (decide ((r47.length : Int) ≠ (r25.length : Int))) = false)) (gv_gd rfl rfl rfl) decide_eq_true_iff (fun hc71 => ?_) (fun w74 hE75 => ?_)
    · have hcq2 : ((¬ ((r56) ≠ (decide (r40 ≥ 0)))) ∧ (r56 = true)) ∧ (¬ ((r47.length : Int) ≠ (r25.length : Int))) := ⟨⟨(i_neg decide_eq_true_iff ((hc71).1).1), Iff.rfl.mp ((hc71).1).2⟩, i_neg decide_eq_true_iff (hc71).2⟩
      have hcq1 := (hcq2).1
      have hcq0 := (hcq1).1
      exact (g_call (vs := #[.slice a26 n27 c28, .slice a48 n49 c50]) CF51 (args2 (if_pos hc71) (if_pos hc71)) ((m_impl_CountChanges_fn (oT.vw hS57.g4 hS57.g5 he30) (oT.vw hS57.g0 hS57.g1 he52) (hk73 hcq2)).mono fun _ _ ⟨_, h1, h2, h3⟩ => ⟨by rw [h2, h1], h3⟩))
    have hB76 := hB58.trans (Ext.stp hE75 hS57.base)
    have hS77 := hS57.ext hE75
    refine wl_guard (c := (((decide ((r56) ≠ (decide (r40 ≥ 0)))) = false) ∧ r56 = true) ∧ (decide ((r47.length : Int) ≠ (r25.length : Int))) = false) (val := .int .i64 r40) (b := decide ((((decide ((r56) ≠ (decide (r40 ≥ 0)))) = false) ∧ r56 = true) ∧ (decide ((r47.length : Int) ≠ (r25.length : Int))) = false)) (gv_gd rfl rfl rfl) decide_eq_true_iff (fun hc78 => ?_) ?_
    · have hcq2 : ((¬ ((r56) ≠ (decide (r40 ≥ 0)))) ∧ (r56 = true)) ∧ (¬ ((r47.length : Int) ≠ (r25.length : Int))) := ⟨⟨(i_neg decide_eq_true_iff ((hc78).1).1), Iff.rfl.mp ((hc78).1).2⟩, i_neg decide_eq_true_iff (hc78).2⟩
      have hcq1 := (hcq2).1
      have hcq0 := (hcq1).1
      exact g_move (v := .int .i64 r40) rfl
    refine wl_guard (c := (((decide ((r56) ≠ (decide (r40 ≥ 0)))) = false) ∧ r56 = true) ∧ (decide ((r47.length : Int) ≠ (r25.length : Int))) = false) (val := .bool (decide (r72 ≠ r40))) (b := decide ((((decide ((r56) ≠ (decide (r40 ≥ 0)))) = false) ∧ r56 = true) ∧ (decide ((r47.length : Int) ≠ (r25.length : Int))) = false)) (gv_gd rfl rfl rfl) decide_eq_true_iff (fun hc79 => ?_) ?_
    · have hcq2 : ((¬ ((r56) ≠ (decide (r40 ≥ 0)))) ∧ (r56 = true)) ∧ (¬ ((r47.length : Int) ≠ (r25.length : Int))) := ⟨⟨(i_neg decide_eq_true_iff ((hc79).1).1), Iff.rfl.mp ((hc79).1).2⟩, i_neg decide_eq_true_iff (hc79).2⟩
      have hcq1 := (hcq2).1
      have hcq0 := (hcq1).1
      exact g_neq (a := r72) (b := r40) (if_pos hc79) (if_pos hc79)
    refine wl_guard (c := ((decide ((r56) ≠ (decide (r40 ≥ 0)))) = false) ∧ r56 = true) (val := .bool ((decide ((r47.length : Int) ≠ (r25.length : Int))) || (decide (r72 ≠ r40)))) (b := decide (((decide ((r56) ≠ (decide (r40 ≥ 0)))) = false) ∧ r56 = true)) (gv_gd rfl rfl rfl) decide_eq_true_iff (fun hc80 => ?_) ?_
    · have hcq1 : (¬ ((r56) ≠ (decide (r40 ≥ 0)))) ∧ (r56 = true) := ⟨(i_neg decide_eq_true_iff (hc80).1), Iff.rfl.mp (hc80).2⟩
      have hcq0 := (hcq1).1
      exact g_pick_or (b := (decide ((r47.length : Int) ≠ (r25.length : Int)))) (q := (decide (r72 ≠ r40))) (if_pos hc80) (gd_in hc80)
    refine wl_guard (c := (decide ((r56) ≠ (decide (r40 ≥ 0)))) = false) (val := .bool (r56 && ((decide ((r47.length : Int) ≠ (r25.length : Int))) || (decide (r72 ≠ r40))))) (b := ((decide ((r56) ≠ (decide (r40 ≥ 0)))) == false)) (gv_some rfl rfl rfl) beq_iff_eq (fun hc81 => ?_) ?_
    · have hcq0 : ¬ ((r56) ≠ (decide (r40 ≥ 0))) := (i_neg decide_eq_true_iff hc81)
      exact g_pick_and (b := r56) (q := ((decide ((r47.length : Int) ≠ (r25.length : Int))) || (decide (r72 ≠ r40)))) (if_pos hc81) (gd_in hc81)
    refine wl_val (g_pick_or (b := (decide ((r56) ≠ (decide (r40 ≥ 0))))) (q := (r56 && ((decide ((r47.length : Int) ≠ (r25.length : Int))) || (decide (r72 ≠ r40))))) rfl rfl) rfl ?_
    refine wl_nil ?_
    refine hK60 _ _ ?_
    refine w_condI (p := (((r56) ≠ (decide (r40 ≥ 0))) ∨ (((r56 = true) ∧ ((((r47.length : Int) ≠ (r25.length : Int)) ∨ (r72 ≠ r40))))))) (b := ((decide ((r56) ≠ (decide (r40 ≥ 0)))) || (r56 && ((decide ((r47.length : Int) ≠ (r25.length : Int))) || (decide (r72 ≠ r40)))))) rfl (i_or decide_eq_true_iff (i_and Iff.rfl (i_or decide_eq_true_iff decide_eq_true_iff))) (fun h82 => ?_) (fun h82 => ?_)
    · replace hm := hm.1 h82
      refine w_seq fun K83 hK83 => ?_
      refine w_region ?_
      refine wl_val (g_assign (v := .bool false) rfl) rfl ?_
      refine wl_nil ?_
      refine hK83 _ _ ?_
      refine w_ret ?_
      repeat first | with_reducible refine q_then ?_ | with_reducible refine q_block ?_
      exact ret1 rfl (by decide) ⟨_, hm, rfl, toExt hB76⟩
    · replace hm := hm.2 h82
      refine w_skip ?_
      refine hK59 _ _ ?_
      refine w_seq fun K84 hK84 => ?_
      refine w_region ?_
      refine wl_step rfl (q_lit0 (α := (Hd Int)) rfl SL37 hS77) ?_
      rintro _ w85 ⟨a86, rfl, hS88, hE87⟩
      have hB90 := hB76.trans (Ext.stp hE87 hS77.base)
      have hS91 := hS88.noRows (δ := Hd Int) (E := 3)
      have he93 : ers ([] : List (Hd Int)) = ([] : List (List Int)) := rfl
      refine wl_val (g_assign (v := .slice a86 0 0) rfl) rfl ?_
      refine wl_nil ?_
      refine hK84 _ _ ?_
      refine w_seq fun K95 hK95 => ?_
      refine w_region ?_
      refine wl_val (g_assign (v := .bool true) rfl) rfl ?_
      refine wl_nil ?_
      refine hK95 _ _ ?_
      refine w_cut (σ := List (List Int) × Option Addr × Nat × Nat × List (Hd Int) × Bool) (fun ⟨x610, a611, n612, c613, y614, v616⟩ => [(3, .slice a17 n18 c19), (4, .slice a26 n27 c28), (5, .int .i64 r40), (7, .bool r56), (8, .slice a611 n612 c613), (9, .bool v616)]) (fun ⟨x610, a611, n612, c613, y614, v616⟩ w' => m_laws_FnChanges_K0 r16 r25 r40 r56 Q x610 v616 ∧ ers y614 = x610 ∧ Below w.heap.size w w' ∧ Sep w' w.heap.size [oS 54 a17 n18 c19 (y20 : List PlayerD), oT 3 (y20 : List PlayerD), oS 23 a26 n27 c28 (y29 : List (Hd Int)), oT 3 (y29 : List (Hd Int)), oS 23 a611 n612 c613 (y614 : List (Hd Int)), oT 3 (y614 : List (Hd Int))]) ?_ ?_
      · refine w_seq fun K618 hK618 => ?_
        refine w_region ?_
        refine wl_val (g_assign (v := .int .i64 0) rfl) rfl ?_
        refine wl_nil ?_
        refine hK618 _ _ ?_
        refine w_block ?_
        have hS627 := hS91.f1
        have hS628 := hS627.f3
        have hS629 := hS628.f3
        have hS630 := hS629.f7
        have hS631 := hS630.f7
        have hS632 := hS631.f7
        have hS633 := hS632.f7
        obtain ⟨I634, μ635, h0636, hr637⟩ := hm
        refine w_for (σ := List (List Int) × Option Addr × Nat × Nat × List (Hd Int) × Bool × Int) (fun ⟨x619, a620, n621, c622, y623, v625, v626⟩ => [(3, .slice a17 n18 c19), (4, .slice a26 n27 c28), (5, .int .i64 r40), (6, .slice a48 n49 c50), (7, .bool r56), (8, .slice a620 n621 c622), (9, .bool v625), (10, .int .i64 v626)]) (fun ⟨x619, a620, n621, c622, y623, v625, v626⟩ w' => I634 x619 v625 v626 ∧ ers y623 = x619 ∧ Below w.heap.size w w' ∧ Sep w' w.heap.size [oS 54 a17 n18 c19 (y20 : List PlayerD), oT 3 (y20 : List PlayerD), oS 23 a26 n27 c28 (y29 : List (Hd Int)), oT 3 (y29 : List (Hd Int)), oS 23 a48 n49 c50 (y51 : List (Hd Int)), oT 3 (y51 : List (Hd Int)), oS 23 a620 n621 c622 (y623 : List (Hd Int)), oT 3 (y623 : List (Hd Int))]) (fun ⟨x619, a620, n621, c622, y623, v625, v626⟩ => μ635 x619 v625 v626) ([], a86, 0, 0, [], true, 0) ⟨rfl, rfl, rfl, rfl, rfl, rfl, rfl, rfl, trivial⟩ ⟨h0636, he93, hB90, hS633⟩ ?_
        rintro ⟨x619, a620, n621, c622, y623, v625, v626⟩ b_ w638 ⟨hi_, he624, hB639, hS640⟩
        show Wp _ _ _ _ (upds b_ [(3, .slice a17 n18 c19), (4, .slice a26 n27 c28), (5, .int .i64 r40), (6, .slice a48 n49 c50), (7, .bool r56), (8, .slice a620 n621 c622), (9, .bool v625), (10, .int .i64 v626)]) w638
        have hm := hr637 x619 v625 v626 hi_
        refine w_seq fun K642 hK642 => ?_
        refine w_seq fun K643 hK643 => ?_
        refine w_region ?_
        refine wl_val (g_move (v := .int .i64 v626) rfl) rfl ?_
        refine wl_val (g_move (v := .slice a26 n27 c28) rfl) rfl ?_
        refine wl_val (q_len SL37 rfl (Tv.len (oT.vw hS640.g2 hS640.g3 he30))) rfl ?_
        refine wl_val (g_lss (a := v626) (b := (r25.length : Int)) rfl rfl) rfl ?_
        refine wl_nil ?_
        refine hK643 _ _ ?_
        refine w_condI (p := v626 < (r25.length : Int)) (b := (decide (v626 < (r25.length : Int)))) rfl decide_eq_true_iff (fun h644 => ?_) (fun h644 => ?_)
        · replace hm := hm.1 h644
          refine w_skip ?_
          refine hK642 _ _ ?_
          refine w_seq fun K645 hK645 => ?_
          refine w_block ?_
          refine w_seq fun K646 hK646 => ?_
          refine w_region ?_
          refine wl_val (g_move (v := .slice a17 n18 c19) rfl) rfl ?_
          refine wl_val (g_move (v := .slice a26 n27 c28) rfl) rfl ?_
          refine wl_val (g_move (v := .int .i64 v626) rfl) rfl ?_
          obtain ⟨hg647, hm⟩ := hm
          refine wl_val (q_index (i := v626) SL37 rfl rfl (Tv.o (oT.vw hS640.g2 hS640.g3 he30)) (Tv.g (oT.vw hS640.g2 hS640.g3 he30) hg647)) rfl ?_
          refine wl_val (q_load (i := v626) (v := .slice ((y29[(Int.toNat v626)]!).1) ((y29[(Int.toNat v626)]!).2.2.length) ((y29[(Int.toNat v626)]!).2.1)) ON23 (Tv.o (oT.vw hS640.g2 hS640.g3 he30)) (Tv.g (oT.vw hS640.g2 hS640.g3 he30) hg647) rfl rfl) rfl ?_
          refine wl_step rfl (g_call (vs := #[.slice a17 n18 c19, .slice ((y29[(Int.toNat v626)]!).1) ((y29[(Int.toNat v626)]!).2.2.length) ((y29[(Int.toNat v626)]!).2.1)]) CF27 (args2 rfl rfl) (m_impl_CastingsOf_fn (oT.vw hS640.g0 hS640.g1 he21) (Tv.row (oT.vw hS640.g2 hS640.g3 he30) hg647) hm)) ?_
          rintro _ w648 ⟨r651, a652, n653, c654, y655, hm, he656, rfl, hE649, hN650⟩
          have hS660 := hS640.call2 hE649 hN650
          have hB661 := hB639.trans (Ext.stp hE649 hS640.base)
          refine wl_val (g_assign (v := .slice a652 n653 c654) rfl) rfl ?_
          refine wl_nil ?_
          refine hK646 _ _ ?_
          refine w_seq fun K662 hK662 => ?_
          refine w_region ?_
          refine wl_val (g_move (v := .slice a17 n18 c19) rfl) rfl ?_
          refine wl_val (g_move (v := .slice a26 n27 c28) rfl) rfl ?_
          refine wl_val (g_move (v := .int .i64 v626) rfl) rfl ?_
          obtain ⟨hg663, hm⟩ := hm
          refine wl_val (q_index (i := v626) SL37 rfl rfl (Tv.o (oT.vw hS660.g4 hS660.g5 he30)) (Tv.g (oT.vw hS660.g4 hS660.g5 he30) hg663)) rfl ?_
          refine wl_val (q_load (i := v626) (v := .slice ((y29[(Int.toNat v626)]!).1) ((y29[(Int.toNat v626)]!).2.2.length) ((y29[(Int.toNat v626)]!).2.1)) ON23 (Tv.o (oT.vw hS660.g4 hS660.g5 he30)) (Tv.g (oT.vw hS660.g4 hS660.g5 he30) hg663) rfl rfl) rfl ?_
          refine wl_step rfl (g_call (vs := #[.slice a17 n18 c19, .slice ((y29[(Int.toNat v626)]!).1) ((y29[(Int.toNat v626)]!).2.2.length) ((y29[(Int.toNat v626)]!).2.1)]) CF13 (args2 rfl rfl) (m_spec_FirstCasting_fn (oT.vw hS660.g2 hS660.g3 he21) (Tv.row (oT.vw hS660.g4 hS660.g5 he30) hg663) hm)) ?_
          rintro _ w664 ⟨r667, a668, n669, c670, r672, hm, rfl, hE665, hN666⟩
          have hS673 := hS660.call1 hE665 hN666
          have hB674 := hB661.trans (Ext.stp hE665 hS660.base)
          refine wl_val (g_move (v := .tuple #[.slice a668 n669 c670, .bool r672]) rfl) rfl ?_
          refine wl_val (g_extract (vs := #[.slice a668 n669 c670, .bool r672]) rfl rfl) rfl ?_
          refine wl_val (g_extract (vs := #[.slice a668 n669 c670, .bool r672]) rfl rfl) rfl ?_
          refine wl_val (g_assign (v := .slice a668 n669 c670) rfl) rfl ?_
          refine wl_val (g_assign (v := .bool r672) rfl) rfl ?_
          refine wl_nil ?_
          refine hK662 _ _ ?_
          refine w_seq fun K675 hK675 => ?_
          refine w_seq fun K676 hK676 => ?_
          refine w_draw (X := Ext) (Y := Ext) [] MIX (by decide +kernel) rfl Ext.refl (fun _ _ _ => Ext.trans) (fun _ _ _ => Chg.trans) (fun _ _ h => Ext.chg h _) (fun w677 hE678 => ?_)
          have hB679 := hB674.trans (Ext.stp hE678 hS673.base)
          have hS680 := hS673.ext hE678
          refine ⟨.bool r672, fun w681 hX682 => od_plain rfl (by have hS683 := hS680.ext hX682; have hB684 := hB679.trans (Ext.stp hX682 hS680.base); exact is_ext (g_move (v := .bool r672) rfl)), ?_⟩
          refine ⟨.slice a652 n653 c654, fun w685 hX686 => od_plain rfl (by have hS687 := hS680.ext hX686; have hB688 := hB679.trans (Ext.stp hX686 hS680.base); exact is_ext (g_move (v := .slice a652 n653 c654) rfl)), ?_⟩
          refine ⟨.int .i64 (r651.length : Int), fun w689 hX690 => od_plain rfl (by have hS691 := hS680.ext hX690; have hB692 := hB679.trans (Ext.stp hX690 hS680.base); exact is_ext (q_len SL37 rfl (Tv.len (oT.vw hS691.g1 hS691.g2 he656)))), ?_⟩
          refine ⟨.bool (decide ((r651.length : Int) > 0)), fun w693 hX694 => od_plain rfl (by have hS695 := hS680.ext hX694; have hB696 := hB679.trans (Ext.stp hX694 hS680.base); exact is_ext (g_gtr (a := (r651.length : Int)) (b := 0) rfl rfl)), ?_⟩
          refine ⟨.bool (decide ((r672) ≠ (decide ((r651.length : Int) > 0)))), fun w697 hX698 => od_plain rfl (by have hS699 := hS680.ext hX698; have hB700 := hB679.trans (Ext.stp hX698 hS680.base); exact is_ext (g_neq_b (a := r672) (b := (decide ((r651.length : Int) > 0))) UB rfl rfl)), ?_⟩
          refine ⟨.bool (decide ((r672) ≠ (decide ((r651.length : Int) > 0)))), fun w701 hX702 => od_plain rfl (by have hS703 := hS680.ext hX702; have hB704 := hB679.trans (Ext.stp hX702 hS680.base); exact is_ext (g_move (v := .bool (decide ((r672) ≠ (decide ((r651.length : Int) > 0))))) rfl)), ?_⟩
          refine ⟨if (decide ((r672) ≠ (decide ((r651.length : Int) > 0)))) = false then .bool r672 else undef, fun w705 hX706 => od_guard (c := (decide ((r672) ≠ (decide ((r651.length : Int) > 0)))) = false) (val := .bool r672) (b := ((decide ((r672) ≠ (decide ((r651.length : Int) > 0)))) == false)) (gv_some rfl rfl rfl) beq_iff_eq (fun hc709 => ?_), ?_⟩
          · have hS707 := hS680.ext hX706
            have hB708 := hB679.trans (Ext.stp hX706 hS680.base)
            have hcq12 : ¬ ((r672) ≠ (decide ((r651.length : Int) > 0))) := (i_neg decide_eq_true_iff hc709)
            exact is_ext (g_move (v := .bool r672) rfl)
          refine ⟨if (decide ((r672) ≠ (decide ((r651.length : Int) > 0)))) = false then .bool r672 else undef, fun w710 hX711 => od_guard (c := (decide ((r672) ≠ (decide ((r651.length : Int) > 0)))) = false) (val := .bool r672) (b := ((decide ((r672) ≠ (decide ((r651.length : Int) > 0)))) == false)) (gv_some rfl rfl rfl) beq_iff_eq (fun hc714 => ?_), ?_⟩
          · have hS712 := hS680.ext hX711
            have hB713 := hB679.trans (Ext.stp hX711 hS680.base)
            have hcq12 : ¬ ((r672) ≠ (decide ((r651.length : Int) > 0))) := (i_neg decide_eq_true_iff hc714)
            exact is_ext (g_move (v := .bool r672) (if_pos hc714))
          refine ⟨if ((decide ((r672) ≠ (decide ((r651.length : Int) > 0)))) = false) ∧ r672 = true then .slice a652 n653 c654 else undef, fun w715 hX716 => od_guard (c := ((decide ((r672) ≠ (decide ((r651.length : Int) > 0)))) = false) ∧ r672 = true) (val := .slice a652 n653 c654) (b := decide (((decide ((r672) ≠ (decide ((r651.length : Int) > 0)))) = false) ∧ r672 = true)) (gv_gd rfl rfl rfl) decide_eq_true_iff (fun hc719 => ?_), ?_⟩
          · have hS717 := hS680.ext hX716
            have hB718 := hB679.trans (Ext.stp hX716 hS680.base)
            have hcq13 : (¬ ((r672) ≠ (decide ((r651.length : Int) > 0)))) ∧ (r672 = true) := ⟨(i_neg decide_eq_true_iff (hc719).1), Iff.rfl.mp (hc719).2⟩
            have hcq12 := (hcq13).1
            exact is_ext (g_move (v := .slice a652 n653 c654) rfl)
          obtain ⟨hg725, hm⟩ := hm
          refine ⟨if ((decide ((r672) ≠ (decide ((r651.length : Int) > 0)))) = false) ∧ r672 = true then .pointer (some ((adr a652).add (0 * El.m (Hd Int)))) else undef, fun w720 hX721 => od_guard (c := ((decide ((r672) ≠ (decide ((r651.length : Int) > 0)))) = false) ∧ r672 = true) (val := .pointer (some ((adr a652).add (0 * El.m (Hd Int))))) (b := decide (((decide ((r672) ≠ (decide ((r651.length : Int) > 0)))) = false) ∧ r672 = true)) (gv_gd rfl rfl rfl) decide_eq_true_iff (fun hc724 => ?_), ?_⟩
          · have hS722 := hS680.ext hX721
            have hB723 := hB679.trans (Ext.stp hX721 hS680.base)
            have hcq13 : (¬ ((r672) ≠ (decide ((r651.length : Int) > 0)))) ∧ (r672 = true) := ⟨(i_neg decide_eq_true_iff (hc724).1), Iff.rfl.mp (hc724).2⟩
            have hcq12 := (hcq13).1
            exact is_ext (q_index (i := 0) SL37 (if_pos hc724) rfl (Tv.o (oT.vw hS722.g1 hS722.g2 he656)) (Tv.g (oT.vw hS722.g1 hS722.g2 he656) (hg725 hcq13)))
          refine ⟨if ((decide ((r672) ≠ (decide ((r651.length : Int) > 0)))) = false) ∧ r672 = true then .slice ((y655[0]!).1) ((y655[0]!).2.2.length) ((y655[0]!).2.1) else undef, fun w726 hX727 => od_guard (c := ((decide ((r672) ≠ (decide ((r651.length : Int) > 0)))) = false) ∧ r672 = true) (val := .slice ((y655[0]!).1) ((y655[0]!).2.2.length) ((y655[0]!).2.1)) (b := decide (((decide ((r672) ≠ (decide ((r651.length : Int) > 0)))) = false) ∧ r672 = true)) (gv_gd rfl rfl rfl) decide_eq_true_iff (fun hc730 => ?_), ?_⟩
          · have hS728 := hS680.ext hX727
            have hB729 := hB679.trans (Ext.stp hX727 hS680.base)
            have hcq13 : (¬ ((r672) ≠ (decide ((r651.length : Int) > 0)))) ∧ (r672 = true) := ⟨(i_neg decide_eq_true_iff (hc730).1), Iff.rfl.mp (hc730).2⟩
            have hcq12 := (hcq13).1
            exact is_ext (q_load (i := 0) (v := .slice ((y655[0]!).1) ((y655[0]!).2.2.length) ((y655[0]!).2.1)) ON23 (Tv.o (oT.vw hS728.g1 hS728.g2 he656)) (Tv.g (oT.vw hS728.g1 hS728.g2 he656) (hg725 hcq13)) rfl (if_pos hc730))
          refine ⟨if ((decide ((r672) ≠ (decide ((r651.length : Int) > 0)))) = false) ∧ r672 = true then .slice a668 n669 c670 else undef, fun w731 hX732 => od_guard (c := ((decide ((r672) ≠ (decide ((r651.length : Int) > 0)))) = false) ∧ r672 = true) (val := .slice a668 n669 c670) (b := decide (((decide ((r672) ≠ (decide ((r651.length : Int) > 0)))) = false) ∧ r672 = true)) (gv_gd rfl rfl rfl) decide_eq_true_iff (fun hc735 => ?_), ?_⟩
          · have hS733 := hS680.ext hX732
            have hB734 := hB679.trans (Ext.stp hX732 hS680.base)
            have hcq13 : (¬ ((r672) ≠ (decide ((r651.length : Int) > 0)))) ∧ (r672 = true) := ⟨(i_neg decide_eq_true_iff (hc735).1), Iff.rfl.mp (hc735).2⟩
            have hcq12 := (hcq13).1
            exact is_ext (g_move (v := .slice a668 n669 c670) rfl)
          obtain ⟨r741, hk742, hm⟩ := hm
          refine ⟨if ((decide ((r672) ≠ (decide ((r651.length : Int) > 0)))) = false) ∧ r672 = true then .bool r741 else undef, fun w736 hX737 => od_guard (c := ((decide ((r672) ≠ (decide ((r651.length : Int) > 0)))) = false) ∧ r672 = true) (val := .bool r741) (b := decide (((decide ((r672) ≠ (decide ((r651.length : Int) > 0)))) = false) ∧ r672 = true)) (gv_gd rfl rfl rfl) decide_eq_true_iff (fun hc740 => ?_), ?_⟩
          · have hS738 := hS680.ext hX737
            have hB739 := hB679.trans (Ext.stp hX737 hS680.base)
            have hcq13 : (¬ ((r672) ≠ (decide ((r651.length : Int) > 0)))) ∧ (r672 = true) := ⟨(i_neg decide_eq_true_iff (hc740).1), Iff.rfl.mp (hc740).2⟩
            have hcq12 := (hcq13).1
            exact (g_call (vs := #[.slice ((y655[0]!).1) ((y655[0]!).2.2.length) ((y655[0]!).2.1), .slice a668 n669 c670]) CF52 (args2 (if_pos hc740) (if_pos hc740)) ((m_laws_sameInts_fn (Tv.row (oT.vw hS738.g1 hS738.g2 he656) (hg725 hcq13)) (oS.vw hS738.g0) (hk742 hcq13)).mono fun _ _ ⟨_, h1, h2, h3⟩ => ⟨by rw [h2, h1], h3⟩))
          refine ⟨if ((decide ((r672) ≠ (decide ((r651.length : Int) > 0)))) = false) ∧ r672 = true then .bool (!r741) else undef, fun w743 hX744 => od_guard (c := ((decide ((r672) ≠ (decide ((r651.length : Int) > 0)))) = false) ∧ r672 = true) (val := .bool (!r741)) (b := decide (((decide ((r672) ≠ (decide ((r651.length : Int) > 0)))) = false) ∧ r672 = true)) (gv_gd rfl rfl rfl) decide_eq_true_iff (fun hc747 => ?_), ?_⟩
          · have hS745 := hS680.ext hX744
            have hB746 := hB679.trans (Ext.stp hX744 hS680.base)
            have hcq13 : (¬ ((r672) ≠ (decide ((r651.length : Int) > 0)))) ∧ (r672 = true) := ⟨(i_neg decide_eq_true_iff (hc747).1), Iff.rfl.mp (hc747).2⟩
            have hcq12 := (hcq13).1
            exact is_ext (g_not (a := r741) (if_pos hc747))
          refine ⟨if (decide ((r672) ≠ (decide ((r651.length : Int) > 0)))) = false then .bool (r672 && (!r741)) else undef, fun w748 hX749 => od_guard (c := (decide ((r672) ≠ (decide ((r651.length : Int) > 0)))) = false) (val := .bool (r672 && (!r741))) (b := ((decide ((r672) ≠ (decide ((r651.length : Int) > 0)))) == false)) (gv_some rfl rfl rfl) beq_iff_eq (fun hc752 => ?_), ?_⟩
          · have hS750 := hS680.ext hX749
            have hB751 := hB679.trans (Ext.stp hX749 hS680.base)
            have hcq12 : ¬ ((r672) ≠ (decide ((r651.length : Int) > 0))) := (i_neg decide_eq_true_iff hc752)
            exact is_ext (g_pick_and (b := r672) (q := (!r741)) (if_pos hc752) (gd_in hc752))
          refine ⟨.bool ((decide ((r672) ≠ (decide ((r651.length : Int) > 0)))) || (r672 && (!r741))), fun w753 hX754 => od_plain rfl (by have hS755 := hS680.ext hX754; have hB756 := hB679.trans (Ext.stp hX754 hS680.base); exact is_ext (g_pick_or (b := (decide ((r672) ≠ (decide ((r651.length : Int) > 0))))) (q := (r672 && (!r741))) rfl rfl)), ?_⟩
          refine ⟨.bool ((decide ((r672) ≠ (decide ((r651.length : Int) > 0)))) || (r672 && (!r741))), fun w757 hX758 => od_plain rfl (by have hS759 := hS680.ext hX758; have hB760 := hB679.trans (Ext.stp hX758 hS680.base); exact is_ext (g_move (v := .bool ((decide ((r672) ≠ (decide ((r651.length : Int) > 0)))) || (r672 && (!r741)))) rfl)), ?_⟩
          refine ⟨if ((decide ((r672) ≠ (decide ((r651.length : Int) > 0)))) || (r672 && (!r741))) = false then .bool r56 else undef, fun w761 hX762 => od_guard (c := ((decide ((r672) ≠ (decide ((r651.length : Int) > 0)))) || (r672 && (!r741))) = false) (val := .bool r56) (b := (((decide ((r672) ≠ (decide ((r651.length : Int) > 0)))) || (r672 && (!r741))) == false)) (gv_some rfl rfl rfl) beq_iff_eq (fun hc765 => ?_), ?_⟩
          · have hS763 := hS680.ext hX762
            have hB764 := hB679.trans (Ext.stp hX762 hS680.base)
            have hcq14 : ¬ ((((r672) ≠ (decide ((r651.length : Int) > 0))) ∨ (((r672 = true) ∧ (¬ (r741 = true)))))) := (i_neg (i_or decide_eq_true_iff (i_and Iff.rfl (i_not Iff.rfl))) hc765)
            exact is_ext (g_move (v := .bool r56) rfl)
          refine ⟨if ((decide ((r672) ≠ (decide ((r651.length : Int) > 0)))) || (r672 && (!r741))) = false then .bool r56 else undef, fun w766 hX767 => od_guard (c := ((decide ((r672) ≠ (decide ((r651.length : Int) > 0)))) || (r672 && (!r741))) = false) (val := .bool r56) (b := (((decide ((r672) ≠ (decide ((r651.length : Int) > 0)))) || (r672 && (!r741))) == false)) (gv_some rfl rfl rfl) beq_iff_eq (fun hc770 => ?_), ?_⟩
          · have hS768 := hS680.ext hX767
            have hB769 := hB679.trans (Ext.stp hX767 hS680.base)
            have hcq14 : ¬ ((((r672) ≠ (decide ((r651.length : Int) > 0))) ∨ (((r672 = true) ∧ (¬ (r741 = true)))))) := (i_neg (i_or decide_eq_true_iff (i_and Iff.rfl (i_not Iff.rfl))) hc770)
            exact is_ext (g_move (v := .bool r56) (if_pos hc770))
          refine ⟨if (((decide ((r672) ≠ (decide ((r651.length : Int) > 0)))) || (r672 && (!r741))) = false) ∧ r56 = true then .slice a17 n18 c19 else undef, fun w771 hX772 => od_guard (c := (((decide ((r672) ≠ (decide ((r651.length : Int) > 0)))) || (r672 && (!r741))) = false) ∧ r56 = true) (val := .slice a17 n18 c19) (b := decide ((((decide ((r672) ≠ (decide ((r651.length : Int) > 0)))) || (r672 && (!r741))) = false) ∧ r56 = true)) (gv_gd rfl rfl rfl) decide_eq_true_iff (fun hc775 => ?_), ?_⟩
          · have hS773 := hS680.ext hX772
            have hB774 := hB679.trans (Ext.stp hX772 hS680.base)
            have hcq15 : (¬ ((((r672) ≠ (decide ((r651.length : Int) > 0))) ∨ (((r672 = true) ∧ (¬ (r741 = true))))))) ∧ (r56 = true) := ⟨(i_neg (i_or decide_eq_true_iff (i_and Iff.rfl (i_not Iff.rfl))) (hc775).1), Iff.rfl.mp (hc775).2⟩
            have hcq14 := (hcq15).1
            exact is_ext (g_move (v := .slice a17 n18 c19) rfl)
          refine ⟨if (((decide ((r672) ≠ (decide ((r651.length : Int) > 0)))) || (r672 && (!r741))) = false) ∧ r56 = true then .slice a26 n27 c28 else undef, fun w776 hX777 => od_guard (c := (((decide ((r672) ≠ (decide ((r651.length : Int) > 0)))) || (r672 && (!r741))) = false) ∧ r56 = true) (val := .slice a26 n27 c28) (b := decide ((((decide ((r672) ≠ (decide ((r651.length : Int) > 0)))) || (r672 && (!r741))) = false) ∧ r56 = true)) (gv_gd rfl rfl rfl) decide_eq_true_iff (fun hc780 => ?_), ?_⟩
          · have hS778 := hS680.ext hX777
            have hB779 := hB679.trans (Ext.stp hX777 hS680.base)
            have hcq15 : (¬ ((((r672) ≠ (decide ((r651.length : Int) > 0))) ∨ (((r672 = true) ∧ (¬ (r741 = true))))))) ∧ (r56 = true) := ⟨(i_neg (i_or decide_eq_true_iff (i_and Iff.rfl (i_not Iff.rfl))) (hc780).1), Iff.rfl.mp (hc780).2⟩
            have hcq14 := (hcq15).1
            exact is_ext (g_move (v := .slice a26 n27 c28) rfl)
          refine ⟨if (((decide ((r672) ≠ (decide ((r651.length : Int) > 0)))) || (r672 && (!r741))) = false) ∧ r56 = true then .int .i64 v626 else undef, fun w781 hX782 => od_guard (c := (((decide ((r672) ≠ (decide ((r651.length : Int) > 0)))) || (r672 && (!r741))) = false) ∧ r56 = true) (val := .int .i64 v626) (b := decide ((((decide ((r672) ≠ (decide ((r651.length : Int) > 0)))) || (r672 && (!r741))) = false) ∧ r56 = true)) (gv_gd rfl rfl rfl) decide_eq_true_iff (fun hc785 => ?_), ?_⟩
          · have hS783 := hS680.ext hX782
            have hB784 := hB679.trans (Ext.stp hX782 hS680.base)
            have hcq15 : (¬ ((((r672) ≠ (decide ((r651.length : Int) > 0))) ∨ (((r672 = true) ∧ (¬ (r741 = true))))))) ∧ (r56 = true) := ⟨(i_neg (i_or decide_eq_true_iff (i_and Iff.rfl (i_not Iff.rfl))) (hc785).1), Iff.rfl.mp (hc785).2⟩
            have hcq14 := (hcq15).1
            exact is_ext (g_move (v := .int .i64 v626) rfl)
          obtain ⟨hg791, hm⟩ := hm
          refine ⟨if (((decide ((r672) ≠ (decide ((r651.length : Int) > 0)))) || (r672 && (!r741))) = false) ∧ r56 = true then .pointer (some ((adr a26).add ((Int.toNat v626) * El.m (Hd Int)))) else undef, fun w786 hX787 => od_guard (c := (((decide ((r672) ≠ (decide ((r651.length : Int) > 0)))) || (r672 && (!r741))) = false) ∧ r56 = true) (val := .pointer (some ((adr a26).add ((Int.toNat v626) * El.m (Hd Int))))) (b := decide ((((decide ((r672) ≠ (decide ((r651.length : Int) > 0)))) || (r672 && (!r741))) = false) ∧ r56 = true)) (gv_gd rfl rfl rfl) decide_eq_true_iff (fun hc790 => ?_), ?_⟩
          · have hS788 := hS680.ext hX787
            have hB789 := hB679.trans (Ext.stp hX787 hS680.base)
            have hcq15 : (¬ ((((r672) ≠ (decide ((r651.length : Int) > 0))) ∨ (((r672 = true) ∧ (¬ (r741 = true))))))) ∧ (r56 = true) := ⟨(i_neg (i_or decide_eq_true_iff (i_and Iff.rfl (i_not Iff.rfl))) (hc790).1), Iff.rfl.mp (hc790).2⟩
            have hcq14 := (hcq15).1
            exact is_ext (q_index (i := v626) SL37 (if_pos hc790) (if_pos hc790) (Tv.o (oT.vw hS788.g5 hS788.g6 he30)) (Tv.g (oT.vw hS788.g5 hS788.g6 he30) (hg791 hcq15)))
          refine ⟨if (((decide ((r672) ≠ (decide ((r651.length : Int) > 0)))) || (r672 && (!r741))) = false) ∧ r56 = true then .slice ((y29[(Int.toNat v626)]!).1) ((y29[(Int.toNat v626)]!).2.2.length) ((y29[(Int.toNat v626)]!).2.1) else undef, fun w792 hX793 => od_guard (c := (((decide ((r672) ≠ (decide ((r651.length : Int) > 0)))) || (r672 && (!r741))) = false) ∧ r56 = true) (val := .slice ((y29[(Int.toNat v626)]!).1) ((y29[(Int.toNat v626)]!).2.2.length) ((y29[(Int.toNat v626)]!).2.1)) (b := decide ((((decide ((r672) ≠ (decide ((r651.length : Int) > 0)))) || (r672 && (!r741))) = false) ∧ r56 = true)) (gv_gd rfl rfl rfl) decide_eq_true_iff (fun hc796 => ?_), ?_⟩
          · have hS794 := hS680.ext hX793
            have hB795 := hB679.trans (Ext.stp hX793 hS680.base)
            have hcq15 : (¬ ((((r672) ≠ (decide ((r651.length : Int) > 0))) ∨ (((r672 = true) ∧ (¬ (r741 = true))))))) ∧ (r56 = true) := ⟨(i_neg (i_or decide_eq_true_iff (i_and Iff.rfl (i_not Iff.rfl))) (hc796).1), Iff.rfl.mp (hc796).2⟩
            have hcq14 := (hcq15).1
            exact is_ext (q_load (i := v626) (v := .slice ((y29[(Int.toNat v626)]!).1) ((y29[(Int.toNat v626)]!).2.2.length) ((y29[(Int.toNat v626)]!).2.1)) ON23 (Tv.o (oT.vw hS794.g5 hS794.g6 he30)) (Tv.g (oT.vw hS794.g5 hS794.g6 he30) (hg791 hcq15)) rfl (if_pos hc796))
          refine ⟨if (((decide ((r672) ≠ (decide ((r651.length : Int) > 0)))) || (r672 && (!r741))) = false) ∧ r56 = true then .slice a48 n49 c50 else undef, fun w797 hX798 => od_guard (c := (((decide ((r672) ≠ (decide ((r651.length : Int) > 0)))) || (r672 && (!r741))) = false) ∧ r56 = true) (val := .slice a48 n49 c50) (b := decide ((((decide ((r672) ≠ (decide ((r651.length : Int) > 0)))) || (r672 && (!r741))) = false) ∧ r56 = true)) (gv_gd rfl rfl rfl) decide_eq_true_iff (fun hc801 => ?_), ?_⟩
          · have hS799 := hS680.ext hX798
            have hB800 := hB679.trans (Ext.stp hX798 hS680.base)
            have hcq15 : (¬ ((((r672) ≠ (decide ((r651.length : Int) > 0))) ∨ (((r672 = true) ∧ (¬ (r741 = true))))))) ∧ (r56 = true) := ⟨(i_neg (i_or decide_eq_true_iff (i_and Iff.rfl (i_not Iff.rfl))) (hc801).1), Iff.rfl.mp (hc801).2⟩
            have hcq14 := (hcq15).1
            exact is_ext (g_move (v := .slice a48 n49 c50) rfl)
          refine ⟨if (((decide ((r672) ≠ (decide ((r651.length : Int) > 0)))) || (r672 && (!r741))) = false) ∧ r56 = true then .int .i64 v626 else undef, fun w802 hX803 => od_guard (c := (((decide ((r672) ≠ (decide ((r651.length : Int) > 0)))) || (r672 && (!r741))) = false) ∧ r56 = true) (val := .int .i64 v626) (b := decide ((((decide ((r672) ≠ (decide ((r651.length : Int) > 0)))) || (r672 && (!r741))) = false) ∧ r56 = true)) (gv_gd rfl rfl rfl) decide_eq_true_iff (fun hc806 => ?_), ?_⟩
          · have hS804 := hS680.ext hX803
            have hB805 := hB679.trans (Ext.stp hX803 hS680.base)
            have hcq15 : (¬ ((((r672) ≠ (decide ((r651.length : Int) > 0))) ∨ (((r672 = true) ∧ (¬ (r741 = true))))))) ∧ (r56 = true) := ⟨(i_neg (i_or decide_eq_true_iff (i_and Iff.rfl (i_not Iff.rfl))) (hc806).1), Iff.rfl.mp (hc806).2⟩
            have hcq14 := (hcq15).1
            exact is_ext (g_move (v := .int .i64 v626) rfl)
          obtain ⟨hg812, hm⟩ := hm
          refine ⟨if (((decide ((r672) ≠ (decide ((r651.length : Int) > 0)))) || (r672 && (!r741))) = false) ∧ r56 = true then .pointer (some ((adr a48).add ((Int.toNat v626) * El.m (Hd Int)))) else undef, fun w807 hX808 => od_guard (c := (((decide ((r672) ≠ (decide ((r651.length : Int) > 0)))) || (r672 && (!r741))) = false) ∧ r56 = true) (val := .pointer (some ((adr a48).add ((Int.toNat v626) * El.m (Hd Int))))) (b := decide ((((decide ((r672) ≠ (decide ((r651.length : Int) > 0)))) || (r672 && (!r741))) = false) ∧ r56 = true)) (gv_gd rfl rfl rfl) decide_eq_true_iff (fun hc811 => ?_), ?_⟩
          · have hS809 := hS680.ext hX808
            have hB810 := hB679.trans (Ext.stp hX808 hS680.base)
            have hcq15 : (¬ ((((r672) ≠ (decide ((r651.length : Int) > 0))) ∨ (((r672 = true) ∧ (¬ (r741 = true))))))) ∧ (r56 = true) := ⟨(i_neg (i_or decide_eq_true_iff (i_and Iff.rfl (i_not Iff.rfl))) (hc811).1), Iff.rfl.mp (hc811).2⟩
            have hcq14 := (hcq15).1
            exact is_ext (q_index (i := v626) SL37 (if_pos hc811) (if_pos hc811) (Tv.o (oT.vw hS809.g7 hS809.g8 he52)) (Tv.g (oT.vw hS809.g7 hS809.g8 he52) (hg812 hcq15)))
          refine ⟨if (((decide ((r672) ≠ (decide ((r651.length : Int) > 0)))) || (r672 && (!r741))) = false) ∧ r56 = true then .slice ((y51[(Int.toNat v626)]!).1) ((y51[(Int.toNat v626)]!).2.2.length) ((y51[(Int.toNat v626)]!).2.1) else undef, fun w813 hX814 => od_guard (c := (((decide ((r672) ≠ (decide ((r651.length : Int) > 0)))) || (r672 && (!r741))) = false) ∧ r56 = true) (val := .slice ((y51[(Int.toNat v626)]!).1) ((y51[(Int.toNat v626)]!).2.2.length) ((y51[(Int.toNat v626)]!).2.1)) (b := decide ((((decide ((r672) ≠ (decide ((r651.length : Int) > 0)))) || (r672 && (!r741))) = false) ∧ r56 = true)) (gv_gd rfl rfl rfl) decide_eq_true_iff (fun hc817 => ?_), ?_⟩
          · have hS815 := hS680.ext hX814
            have hB816 := hB679.trans (Ext.stp hX814 hS680.base)
            have hcq15 : (¬ ((((r672) ≠ (decide ((r651.length : Int) > 0))) ∨ (((r672 = true) ∧ (¬ (r741 = true))))))) ∧ (r56 = true) := ⟨(i_neg (i_or decide_eq_true_iff (i_and Iff.rfl (i_not Iff.rfl))) (hc817).1), Iff.rfl.mp (hc817).2⟩
            have hcq14 := (hcq15).1
            exact is_ext (q_load (i := v626) (v := .slice ((y51[(Int.toNat v626)]!).1) ((y51[(Int.toNat v626)]!).2.2.length) ((y51[(Int.toNat v626)]!).2.1)) ON23 (Tv.o (oT.vw hS815.g7 hS815.g8 he52)) (Tv.g (oT.vw hS815.g7 hS815.g8 he52) (hg812 hcq15)) rfl (if_pos hc817))
          obtain ⟨r823, hk824, hm⟩ := hm
          refine ⟨if (((decide ((r672) ≠ (decide ((r651.length : Int) > 0)))) || (r672 && (!r741))) = false) ∧ r56 = true then .bool r823 else undef, fun w818 hX819 => od_guard (c := (((decide ((r672) ≠ (decide ((r651.length : Int) > 0)))) || (r672 && (!r741))) = false) ∧ r56 = true) (val := .bool r823) (b := decide ((((decide ((r672) ≠ (decide ((r651.length : Int) > 0)))) || (r672 && (!r741))) = false) ∧ r56 = true)) (gv_gd rfl rfl rfl) decide_eq_true_iff (fun hc822 => ?_), ?_⟩
          · have hS820 := hS680.ext hX819
            have hB821 := hB679.trans (Ext.stp hX819 hS680.base)
            have hcq15 : (¬ ((((r672) ≠ (decide ((r651.length : Int) > 0))) ∨ (((r672 = true) ∧ (¬ (r741 = true))))))) ∧ (r56 = true) := ⟨(i_neg (i_or decide_eq_true_iff (i_and Iff.rfl (i_not Iff.rfl))) (hc822).1), Iff.rfl.mp (hc822).2⟩
            have hcq14 := (hcq15).1
            exact (g_call (vs := #[.slice a17 n18 c19, .slice ((y29[(Int.toNat v626)]!).1) ((y29[(Int.toNat v626)]!).2.2.length) ((y29[(Int.toNat v626)]!).2.1), .slice ((y51[(Int.toNat v626)]!).1) ((y51[(Int.toNat v626)]!).2.2.length) ((y51[(Int.toNat v626)]!).2.1)]) CF53 (args3 (if_pos hc822) (if_pos hc822) (if_pos hc822)) ((m_spec_IsCasting_fn (oT.vw hS820.g3 hS820.g4 he21) (Tv.row (oT.vw hS820.g5 hS820.g6 he30) (hg791 hcq15)) (Tv.row (oT.vw hS820.g7 hS820.g8 he52) (hg812 hcq15)) (hk824 hcq15)).mono fun _ _ ⟨_, h1, h2, h3⟩ => ⟨by rw [h2, h1], h3⟩))
          refine ⟨if (((decide ((r672) ≠ (decide ((r651.length : Int) > 0)))) || (r672 && (!r741))) = false) ∧ r56 = true then .bool (!r823) else undef, fun w825 hX826 => od_guard (c := (((decide ((r672) ≠ (decide ((r651.length : Int) > 0)))) || (r672 && (!r741))) = false) ∧ r56 = true) (val := .bool (!r823)) (b := decide ((((decide ((r672) ≠ (decide ((r651.length : Int) > 0)))) || (r672 && (!r741))) = false) ∧ r56 = true)) (gv_gd rfl rfl rfl) decide_eq_true_iff (fun hc829 => ?_), ?_⟩
          · have hS827 := hS680.ext hX826
            have hB828 := hB679.trans (Ext.stp hX826 hS680.base)
            have hcq15 : (¬ ((((r672) ≠ (decide ((r651.length : Int) > 0))) ∨ (((r672 = true) ∧ (¬ (r741 = true))))))) ∧ (r56 = true) := ⟨(i_neg (i_or decide_eq_true_iff (i_and Iff.rfl (i_not Iff.rfl))) (hc829).1), Iff.rfl.mp (hc829).2⟩
            have hcq14 := (hcq15).1
            exact is_ext (g_not (a := r823) (if_pos hc829))
          refine ⟨if ((decide ((r672) ≠ (decide ((r651.length : Int) > 0)))) || (r672 && (!r741))) = false then .bool (r56 && (!r823)) else undef, fun w830 hX831 => od_guard (c := ((decide ((r672) ≠ (decide ((r651.length : Int) > 0)))) || (r672 && (!r741))) = false) (val := .bool (r56 && (!r823))) (b := (((decide ((r672) ≠ (decide ((r651.length : Int) > 0)))) || (r672 && (!r741))) == false)) (gv_some rfl rfl rfl) beq_iff_eq (fun hc834 => ?_), ?_⟩
          · have hS832 := hS680.ext hX831
            have hB833 := hB679.trans (Ext.stp hX831 hS680.base)
            have hcq14 : ¬ ((((r672) ≠ (decide ((r651.length : Int) > 0))) ∨ (((r672 = true) ∧ (¬ (r741 = true)))))) := (i_neg (i_or decide_eq_true_iff (i_and Iff.rfl (i_not Iff.rfl))) hc834)
            exact is_ext (g_pick_and (b := r56) (q := (!r823)) (if_pos hc834) (gd_in hc834))
          refine ⟨.bool (((decide ((r672) ≠ (decide ((r651.length : Int) > 0)))) || (r672 && (!r741))) || (r56 && (!r823))), fun w835 hX836 => od_plain rfl (by have hS837 := hS680.ext hX836; have hB838 := hB679.trans (Ext.stp hX836 hS680.base); exact is_ext (g_pick_or (b := ((decide ((r672) ≠ (decide ((r651.length : Int) > 0)))) || (r672 && (!r741)))) (q := (r56 && (!r823))) rfl rfl)), ?_⟩
          intro w839 hX840
          have hB841 := hB679.trans (Ext.stp hX840 hS680.base)
          have hS842 := hS680.ext hX840
          refine hK676 _ _ ?_
          refine w_condI (p := (((((r672) ≠ (decide ((r651.length : Int) > 0))) ∨ (((r672 = true) ∧ (¬ (r741 = true)))))) ∨ (((r56 = true) ∧ (¬ (r823 = true)))))) (b := (((decide ((r672) ≠ (decide ((r651.length : Int) > 0)))) || (r672 && (!r741))) || (r56 && (!r823)))) rfl (i_or (i_or decide_eq_true_iff (i_and Iff.rfl (i_not Iff.rfl))) (i_and Iff.rfl (i_not Iff.rfl))) (fun h843 => ?_) (fun h843 => ?_)
          · replace hm := hm.1 h843
            refine w_seq fun K844 hK844 => ?_
            refine w_region ?_
            refine wl_val (g_assign (v := .bool false) rfl) rfl ?_
            refine wl_nil ?_
            refine hK844 _ _ ?_
            refine w_ret ?_
            repeat first | with_reducible refine q_then ?_ | with_reducible refine q_block ?_
            exact ret1 rfl (by decide) ⟨_, hm, rfl, toExt hB841⟩
          · replace hm := hm.2 h843
            refine w_skip ?_
            refine hK675 _ _ ?_
            refine w_seq fun K845 hK845 => ?_
            refine w_region ?_
            refine wl_val (g_move (v := .bool v625) rfl) rfl ?_
            refine wl_val (g_move (v := .bool v625) rfl) rfl ?_
            refine wl_guard (c := v625 = true) (val := .bool r672) (b := (v625 == true)) (gv_some rfl rfl rfl) beq_iff_eq (fun hc846 => ?_) ?_
            · have hcq16 : v625 = true := (Iff.rfl.mp hc846)
              exact g_move (v := .bool r672) rfl
            refine wl_val (g_pick_and (b := v625) (q := r672) rfl rfl) rfl ?_
            refine wl_val (g_assign (v := .bool (v625 && r672)) rfl) rfl ?_
            refine wl_nil ?_
            refine hK845 _ _ ?_
            refine w_region ?_
            refine wl_val (g_move (v := .slice a620 n621 c622) rfl) rfl ?_
            refine wl_val (g_move (v := .slice a668 n669 c670) rfl) rfl ?_
            have hn852 := oS.len hS842.g0
            have hS853 := hS842.oneRow
            have he851 : ers [((a668, c670, r667) : Hd Int)] = [r667] := rfl
            refine wl_step rfl (q_lit1 (y := ((a668, c670, r667) : Hd Int)) SL37 rfl (hd_cells hn852) (by decide) hS853) ?_
            rintro _ w847 ⟨a848, rfl, hS850, hE849⟩
            have hB856 := hB841.trans (Ext.stp hE849 hS853.base)
            have hS863 := hS850.f10
            obtain ⟨hg864, hm⟩ := hm
            have hl865 : (y623).length + ([(a668, c670, r667)]).length ≤ 1099511627776 := by have h1 := congrArg List.length he624; have h2 := congrArg List.length he851; have h3 := hg864; simp only [ers, List.length_map, List.length_append, List.length_cons, List.length_nil, List.length_replicate, List.length_set] at h1 h2 h3 ⊢; omega
            refine wl_step rfl (q_append SL37 rfl rfl hS863 (oS.vw hS863.g1) hl865 (by decide)) ?_
            rintro _ w858 ⟨a859, c860, rfl, hS862, hb861⟩
            have hB866 := hB856.trans hb861
            have hS867 := hS862.f1
            have hS868 := hS867.tail
            have hS869 := hS868.f10
            have hS870 := hS869.f2
            have hS871 := hS870.catRows
            have he872 : ers (y623 ++ ([(a668, c670, r667)])) = (x619 ++ ([r667])) := by rw [← he624, ← he851]; exact List.map_append
            refine wl_val (g_assign (v := .slice a859 (n621 + 1) c860) rfl) rfl ?_
            refine wl_nil ?_
            refine hK645 _ _ ?_
            refine w_region ?_
            refine wl_val (g_move (v := .int .i64 v626) rfl) rfl ?_
            obtain ⟨hg873, hm⟩ := hm
            refine wl_val (g_add (a := v626) (b := 1) rfl rfl hg873) rfl ?_
            refine wl_val (g_assign (v := .int .i64 (v626 + 1)) rfl) rfl ?_
            refine wl_nil ?_
            have hS874 := hS871.f2
            have hS875 := hS874.tail
            have hS876 := hS875.f2
            have hS877 := hS876.tail
            have hS878 := hS877.f1
            have hS879 := hS878.f7
            have hS880 := hS879.f7
            have hS881 := hS880.f7
            have hS882 := hS881.f7
            have hS883 := hS882.f7
            have hS884 := hS883.f7
            exact ⟨((x619 ++ ([r667])), a859, (n621 + 1), c860, (y623 ++ ([(a668, c670, r667)])), (v625 && r672), (v626 + 1)), hm.2, ⟨rfl, rfl, rfl, rfl, rfl, rfl, rfl, rfl, trivial⟩, ⟨hm.1, he872, hB866, hS884⟩⟩
        · replace hm := hm.2 h644
          refine w_exit ?_
          have hS885 := hS640.f4
          have hS886 := hS885.tail
          have hS887 := hS886.f4
          have hS888 := hS887.tail
          exact ⟨(x619, a620, n621, c622, y623, v625), ⟨rfl, rfl, rfl, rfl, rfl, rfl, trivial⟩, ⟨hm, he624, hB639, hS888⟩⟩
      · rintro ⟨x610, a611, n612, c613, y614, v616⟩ b_ w889 ⟨hm, he615, hB890, hS891⟩
        show Wp _ _ _ _ (upds b_ [(3, .slice a17 n18 c19), (4, .slice a26 n27 c28), (5, .int .i64 r40), (7, .bool r56), (8, .slice a611 n612 c613), (9, .bool v616)]) w889
        refine w_seq fun K892 hK892 => ?_
        refine w_seq fun K893 hK893 => ?_
        refine w_region ?_
        refine wl_val (g_move (v := .bool v616) rfl) rfl ?_
        refine wl_val (g_move (v := .bool r56) rfl) rfl ?_
        refine wl_val (g_neq_b (a := v616) (b := r56) UB rfl rfl) rfl ?_
        refine wl_val (g_move (v := .bool (decide ((v616) ≠ (r56)))) rfl) rfl ?_
        refine wl_guard (c := (decide ((v616) ≠ (r56))) = false) (val := .bool v616) (b := ((decide ((v616) ≠ (r56))) == false)) (gv_some rfl rfl rfl) beq_iff_eq (fun hc894 => ?_) ?_
        · have hcq17 : ¬ ((v616) ≠ (r56)) := (i_neg decide_eq_true_iff hc894)
          exact g_move (v := .bool v616) rfl
        refine wl_guard (c := (decide ((v616) ≠ (r56))) = false) (val := .bool v616) (b := ((decide ((v616) ≠ (r56))) == false)) (gv_some rfl rfl rfl) beq_iff_eq (fun hc895 => ?_) ?_
        · have hcq17 : ¬ ((v616) ≠ (r56)) := (i_neg decide_eq_true_iff hc895)
          exact g_move (v := .bool v616) (if_pos hc895)
        refine wl_guard (c := ((decide ((v616) ≠ (r56))) = false) ∧ v616 = true) (val := .slice a26 n27 c28) (b := decide (((decide ((v616) ≠ (r56))) = false) ∧ v616 = true)) (gv_gd rfl rfl rfl) decide_eq_true_iff (fun hc896 => ?_) ?_
        · have hcq18 : (¬ ((v616) ≠ (r56))) ∧ (v616 = true) := ⟨(i_neg decide_eq_true_iff (hc896).1), Iff.rfl.mp (hc896).2⟩
          have hcq17 := (hcq18).1
          exact g_move (v := .slice a26 n27 c28) rfl
        refine wl_guard (c := ((decide ((v616) ≠ (r56))) = false) ∧ v616 = true) (val := .slice a611 n612 c613) (b := decide (((decide ((v616) ≠ (r56))) = false) ∧ v616 = true)) (gv_gd rfl rfl rfl) decide_eq_true_iff (fun hc897 => ?_) ?_
        · have hcq18 : (¬ ((v616) ≠ (r56))) ∧ (v616 = true) := ⟨(i_neg decide_eq_true_iff (hc897).1), Iff.rfl.mp (hc897).2⟩
          have hcq17 := (hcq18).1
          exact g_move (v := .slice a611 n612 c613) rfl
        obtain ⟨r899, hk900, hm⟩ := hm
        refine wl_guardE (X := Ext) (c := ((decide ((v616) ≠ (r56))) = false) ∧ v616 = true) (val := .int .i64 r899) (Ext.refl _) (b := decide (((decide ((v616) ≠ (r56))) = false) ∧ v616 = true)) (gv_gd rfl rfl rfl) decide_eq_true_iff (fun hc898 => ?_) (fun w901 hE902 => ?_)
        · have hcq18 : (¬ ((v616) ≠ (r56))) ∧ (v616 = true) := ⟨(i_neg decide_eq_true_iff (hc898).1), Iff.rfl.mp (hc898).2⟩
          have hcq17 := (hcq18).1
          exact (g_call (vs := #[.slice a26 n27 c28, .slice a611 n612 c613]) CF51 (args2 (if_pos hc898) (if_pos hc898)) ((m_impl_CountChanges_fn (oT.vw hS891.g2 hS891.g3 he30) (oT.vw hS891.g4 hS891.g5 he615) (hk900 hcq18)).mono fun _ _ ⟨_, h1, h2, h3⟩ => ⟨by rw [h2, h1], h3⟩))
        have hB903 := hB890.trans (Ext.stp hE902 hS891.base)
        have hS904 := hS891.ext hE902
        refine wl_guard (c := ((decide ((v616) ≠ (r56))) = false) ∧ v616 = true) (val := .int .i64 r40) (b := decide (((decide ((v616) ≠ (r56))) = false) ∧ v616 = true)) (gv_gd rfl rfl rfl) decide_eq_true_iff (fun hc905 => ?_) ?_
        · have hcq18 : (¬ ((v616) ≠ (r56))) ∧ (v616 = true) := ⟨(i_neg decide_eq_true_iff (hc905).1), Iff.rfl.mp (hc905).2⟩
          have hcq17 := (hcq18).1
          exact g_move (v := .int .i64 r40) rfl
        refine wl_guard (c := ((decide ((v616) ≠ (r56))) = false) ∧ v616 = true) (val := .bool (decide (r899 < r40))) (b := decide (((decide ((v616) ≠ (r56))) = false) ∧ v616 = true)) (gv_gd rfl rfl rfl) decide_eq_true_iff (fun hc906 => ?_) ?_
        · have hcq18 : (¬ ((v616) ≠ (r56))) ∧ (v616 = true) := ⟨(i_neg decide_eq_true_iff (hc906).1), Iff.rfl.mp (hc906).2⟩
          have hcq17 := (hcq18).1
          exact g_lss (a := r899) (b := r40) (if_pos hc906) (if_pos hc906)
        refine wl_guard (c := (decide ((v616) ≠ (r56))) = false) (val := .bool (v616 && (decide (r899 < r40)))) (b := ((decide ((v616) ≠ (r56))) == false)) (gv_some rfl rfl rfl) beq_iff_eq (fun hc907 => ?_) ?_
        · have hcq17 : ¬ ((v616) ≠ (r56)) := (i_neg decide_eq_true_iff hc907)
          exact g_pick_and (b := v616) (q := (decide (r899 < r40))) (if_pos hc907) (gd_in hc907)
        refine wl_val (g_pick_or (b := (decide ((v616) ≠ (r56)))) (q := (v616 && (decide (r899 < r40)))) rfl rfl) rfl ?_
        refine wl_nil ?_
        refine hK893 _ _ ?_
        refine w_condI (p := (((v616) ≠ (r56)) ∨ (((v616 = true) ∧ (r899 < r40))))) (b := ((decide ((v616) ≠ (r56))) || (v616 && (decide (r899 < r40))))) rfl (i_or decide_eq_true_iff (i_and Iff.rfl decide_eq_true_iff)) (fun h908 => ?_) (fun h908 => ?_)
        · replace hm := hm.1 h908
          refine w_seq fun K909 hK909 => ?_
          refine w_region ?_
          refine wl_val (g_assign (v := .bool false) rfl) rfl ?_
          refine wl_nil ?_
          refine hK909 _ _ ?_
          refine w_ret ?_
          repeat first | with_reducible refine q_then ?_ | with_reducible refine q_block ?_
          exact ret1 rfl (by decide) ⟨_, hm, rfl, toExt hB903⟩
        · replace hm := hm.2 h908
          refine w_skip ?_
          refine hK892 _ _ ?_
          refine w_seq fun K910 hK910 => ?_
          refine w_region ?_
          refine wl_val (g_move (v := .slice a17 n18 c19) rfl) rfl ?_
          refine wl_val (g_move (v := .slice a26 n27 c28) rfl) rfl ?_
          refine wl_step rfl (g_call (vs := #[.slice a17 n18 c19, .slice a26 n27 c28]) CF54 (args2 rfl rfl) (m_impl_NightOk_fn (oT.vw hS904.g0 hS904.g1 he21) (oT.vw hS904.g2 hS904.g3 he30) hm)) ?_
          rintro _ w911 ⟨r914, hm, rfl, hE912⟩
          have hB915 := hB903.trans (Ext.stp hE912 hS904.base)
          have hS916 := hS904.ext hE912
          refine wl_val (g_move (v := .bool r914) rfl) rfl ?_
          by_cases hc917 : r914 = true
          · replace hm := hm.1 (Iff.rfl.mp hc917)
            refine wl_stepT (gv_T (gv_some rfl rfl rfl) hc917) (q_lit2 (y := (1 : Int)) (y' := (2 : Int)) SL23 rfl rfl rfl rfl (by decide) hS916) ?_
            rintro _ w918 ⟨a919, rfl, hS921, hE920⟩
            have hB923 := hB915.trans (Ext.stp hE920 hS916.base)
            refine wl_stepT (gv_T (gv_some rfl rfl rfl) hc917) (q_lit2 (y := (0 : Int)) (y' := (0 : Int)) SL23 rfl rfl rfl rfl (by decide) hS921) ?_
            rintro _ w924 ⟨a925, rfl, hS927, hE926⟩
            have hB929 := hB923.trans (Ext.stp hE926 hS921.base)
            refine wl_stepT (gv_T (gv_some rfl rfl rfl) hc917) (q_lit2 (y := (2 : Int)) (y' := (3 : Int)) SL23 rfl rfl rfl rfl (by decide) hS927) ?_
            rintro _ w930 ⟨a931, rfl, hS933, hE932⟩
            have hB935 := hB929.trans (Ext.stp hE932 hS927.base)
            refine wl_stepT (gv_T (gv_some rfl rfl rfl) hc917) (q_lit2 (y := (1 : Int)) (y' := (1 : Int)) SL23 rfl rfl rfl rfl (by decide) hS933) ?_
            rintro _ w936 ⟨a937, rfl, hS939, hE938⟩
            have hB941 := hB935.trans (Ext.stp hE938 hS933.base)
            refine wl_stepT (gv_T (gv_some rfl rfl rfl) hc917) (g_call (vs := #[.slice a919 2 2, .slice a925 2 2, .slice a931 2 2, .slice a937 2 2]) CF55 (args4 rfl rfl rfl rfl) (m_impl_ChangesBetween_fn (oS.vw hS939.g3) (oS.vw hS939.g2) (oS.vw hS939.g1) (oS.vw hS939.g0) hm)) ?_
            rintro _ w942 ⟨r945, hm, rfl, hE943⟩
            have hB946 := hB941.trans (Ext.stp hE943 hS939.base)
            have hS947 := hS939.ext hE943
            refine wl_valT (g_eql (a := r945) (b := 1) rfl rfl) (gv_T (gv_some rfl rfl rfl) hc917) ?_
            refine wl_val (g_pickT (b := r914) rfl hc917 rfl) rfl ?_
            refine wl_val (g_move (v := .bool (decide (r945 = 1))) rfl) rfl ?_
            by_cases hc948 : (decide (r945 = 1)) = true
            · replace hm := hm.1 (decide_eq_true_iff.mp hc948)
              refine wl_stepT (gv_T (gv_some rfl rfl rfl) hc948) (q_lit1 (y := (1 : Int)) SL23 rfl rfl (by decide) hS947) ?_
              rintro _ w949 ⟨a950, rfl, hS952, hE951⟩
              have hB954 := hB946.trans (Ext.stp hE951 hS947.base)
              refine wl_stepT (gv_T (gv_some rfl rfl rfl) hc948) (g_call (vs := #[.slice a950 1 1, .slice none 0 0, .slice none 0 0, .slice none 0 0]) CF55 (args4 rfl rfl rfl rfl) (m_impl_ChangesBetween_fn (oS.vw hS952.g0) (Vw.emp (α := Int)) (Vw.emp (α := Int)) (Vw.emp (α := Int)) hm)) ?_
              rintro _ w955 ⟨r958, hm, rfl, hE956⟩
              have hB959 := hB954.trans (Ext.stp hE956 hS952.base)
              have hS960 := hS952.ext hE956
              refine wl_valT (g_eql (a := r958) (b := (-1)) rfl rfl) (gv_T (gv_some rfl rfl rfl) hc948) ?_
              refine wl_val (g_pickT (b := (decide (r945 = 1))) rfl hc948 rfl) rfl ?_
              refine wl_val (g_assign (v := .bool (decide (r958 = (-1)))) rfl) rfl ?_
              refine wl_nil ?_
              refine hK910 _ _ ?_
              refine w_ret ?_
              repeat first | with_reducible refine q_then ?_ | with_reducible refine q_block ?_
              exact ret1 rfl (by decide) ⟨_, hm, rfl, toExt hB959⟩
            · have hc948n := b_F hc948
              replace hm := hm.2 (i_neg decide_eq_true_iff hc948n)
              refine wl_skipF (gv_F (gv_some rfl rfl rfl) hc948n) ?_
              refine wl_skipF (gv_F (gv_some rfl rfl rfl) hc948n) ?_
              refine wl_skipF (gv_F (gv_some rfl rfl rfl) hc948n) ?_
              refine wl_val (g_pickF (b := (decide (r945 = 1))) rfl hc948n rfl) rfl ?_
              refine wl_val (g_assign (v := .bool false) rfl) rfl ?_
              refine wl_nil ?_
              refine hK910 _ _ ?_
              refine w_ret ?_
              repeat first | with_reducible refine q_then ?_ | with_reducible refine q_block ?_
              exact ret1 rfl (by decide) ⟨_, hm, rfl, toExt hB946⟩
          · have hc917n := b_F hc917
            replace hm := hm.2 (i_neg Iff.rfl hc917n)
            refine wl_skipF (gv_F (gv_some rfl rfl rfl) hc917n) ?_
            refine wl_skipF (gv_F (gv_some rfl rfl rfl) hc917n) ?_
            refine wl_skipF (gv_F (gv_some rfl rfl rfl) hc917n) ?_
            refine wl_skipF (gv_F (gv_some rfl rfl rfl) hc917n) ?_
            refine wl_skipF (gv_F (gv_some rfl rfl rfl) hc917n) ?_
            refine wl_skipF (gv_F (gv_some rfl rfl rfl) hc917n) ?_
            refine wl_val (g_pickF (b := r914) rfl hc917n rfl) rfl ?_
            refine wl_val (g_move (v := .bool false) rfl) rfl ?_
            refine wl_skipF (gv_F (gv_some rfl rfl rfl) rfl) ?_
            refine wl_skipF (gv_F (gv_some rfl rfl rfl) rfl) ?_
            refine wl_skipF (gv_F (gv_some rfl rfl rfl) rfl) ?_
            refine wl_val (g_pickF (b := false) rfl rfl rfl) rfl ?_
            refine wl_val (g_assign (v := .bool false) rfl) rfl ?_
            refine wl_nil ?_
            refine hK910 _ _ ?_
            refine w_ret ?_
            repeat first | with_reducible refine q_then ?_ | with_reducible refine q_block ?_
            exact ret1 rfl (by decide) ⟨_, hm, rfl, toExt hB915⟩

end Go.Proofs.Ytddjkiefadiijaa
