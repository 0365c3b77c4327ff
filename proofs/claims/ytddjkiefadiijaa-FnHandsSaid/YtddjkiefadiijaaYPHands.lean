/- The walks: the code does what its model says. Printed by a program (gen2.py). No statement of the claim stands here. -/
import Derived.Test.YtddjkiefadiijaaFacts2
import Derived.Test.YtddjkiefadiijaaSop
import Derived.Test.YtddjkiefadiijaaFacts
import Derived.Test.YtddjkiefadiijaaMG
import Derived.Test.YtddjkiefadiijaaWG1
import Derived.Test.YtddjkiefadiijaaWG2
namespace Go.Proofs.Ytddjkiefadiijaa
open Go Go.RowKit
set_option maxRecDepth 100000
theorem m_laws_FnHands_fn {w : World} {a0 : Option Addr} {n0 c0 : Nat} {p0 : List Byte} {Q : Bool → Prop} (hp0 : Vw w.heap.size w a0 n0 c0 p0) (hm : m_laws_FnHands p0 Q) :
    Fn Try.prog 9 #[.slice a0 n0 c0] w (fun v w' => ∃ (r0 : Bool), Q r0 ∧ v = .bool r0 ∧ Ext w w') := by
  unfold m_laws_FnHands at hm
  have hB0 := Below.refl w.heap.size w
  have hS0 : Sep w w.heap.size [] := Sep.nil (Nat.le_refl _)
  refine fn_of_wp Try.func9 rfl (by kernel_rfl) (Nat.le_of_ble_eq_true rfl) ?_
  refine w_seq fun K1 hK1 => ?_
  refine w_region ?_
  refine wl_val (g_assign (v := .bool false) rfl) rfl ?_
  refine wl_nil ?_
  refine hK1 _ _ ?_
  refine w_seq fun K2 hK2 => ?_
  refine w_seq fun K3 hK3 => ?_
  refine w_region ?_
  refine wl_val (g_move (v := .slice a0 n0 c0) rfl) rfl ?_
  refine wl_step rfl (g_call (vs := #[.slice a0 n0 c0]) CF37 (args1 rfl) (m_laws_big_fn ((hp0.bel hB0).up hS0) hm)) ?_
  rintro _ w4 ⟨r7, hm, rfl, hE5⟩
  have hB8 := hB0.trans (Ext.stp hE5 hS0.base)
  have hS9 := hS0.ext hE5
  refine wl_nil ?_
  refine hK3 _ _ ?_
  refine w_condI (p := r7 = true) (b := r7) rfl Iff.rfl (fun h10 => ?_) (fun h10 => ?_)
  · replace hm := hm.1 h10
    refine w_seq fun K11 hK11 => ?_
    refine w_region ?_
    refine wl_val (g_assign (v := .bool true) rfl) rfl ?_
    refine wl_nil ?_
    refine hK11 _ _ ?_
    refine w_ret ?_
    repeat first | with_reducible refine q_then ?_ | with_reducible refine q_block ?_
    exact ret1 rfl (by decide) ⟨_, hm, rfl, toExt hB8⟩
  · replace hm := hm.2 h10
    refine w_skip ?_
    refine hK2 _ _ ?_
    refine w_seq fun K12 hK12 => ?_
    refine w_region ?_
    refine wl_val (g_move (v := .slice a0 n0 c0) rfl) rfl ?_
    refine wl_step rfl (g_call (vs := #[.slice a0 n0 c0]) CF38 (args1 rfl) (m_spec_DrawPlayers_fn ((hp0.bel hB8).up hS9) hm)) ?_
    rintro _ w13 ⟨r16, a17, n18, c19, y20, r25, a26, n27, c28, hm, he21, rfl, hE14, hN15⟩
    have hS30 := hS9.call3 hE14 hN15
    have hB31 := hB8.trans (Ext.stp hE14 hS9.base)
    refine wl_val (g_move (v := .tuple #[.slice a17 n18 c19, .slice a26 n27 c28]) rfl) rfl ?_
    refine wl_val (g_extract (vs := #[.slice a17 n18 c19, .slice a26 n27 c28]) rfl rfl) rfl ?_
    refine wl_val (g_extract (vs := #[.slice a17 n18 c19, .slice a26 n27 c28]) rfl rfl) rfl ?_
    refine wl_val (g_assign (v := .slice a17 n18 c19) rfl) rfl ?_
    refine wl_val (g_assign (v := .slice a26 n27 c28) rfl) rfl ?_
    refine wl_nil ?_
    refine hK12 _ _ ?_
    refine w_seq fun K32 hK32 => ?_
    refine w_region ?_
    refine wl_val (g_move (v := .slice a17 n18 c19) rfl) rfl ?_
    refine wl_val (g_move (v := .slice a26 n27 c28) rfl) rfl ?_
    refine wl_step rfl (g_call (vs := #[.slice a17 n18 c19, .slice a26 n27 c28]) CF16 (args2 rfl rfl) (m_impl_FirstCasting_fn (oT.vw hS30.g0 hS30.g1 he21) (oS.vw hS30.g2) hm)) ?_
    rintro _ w33 ⟨r36, a37, n38, c39, r41, hm, rfl, hE34, hN35⟩
    have hS42 := hS30.call1 hE34 hN35
    have hB43 := hB31.trans (Ext.stp hE34 hS30.base)
    refine wl_val (g_move (v := .tuple #[.slice a37 n38 c39, .bool r41]) rfl) rfl ?_
    refine wl_val (g_extract (vs := #[.slice a37 n38 c39, .bool r41]) rfl rfl) rfl ?_
    refine wl_val (g_extract (vs := #[.slice a37 n38 c39, .bool r41]) rfl rfl) rfl ?_
    refine wl_val (g_assign (v := .slice a37 n38 c39) rfl) rfl ?_
    refine wl_val (g_assign (v := .bool r41) rfl) rfl ?_
    refine wl_nil ?_
    refine hK32 _ _ ?_
    refine w_seq fun K44 hK44 => ?_
    refine w_region ?_
    refine wl_val (g_move (v := .slice a17 n18 c19) rfl) rfl ?_
    refine wl_step rfl (g_call (vs := #[.slice a17 n18 c19]) CF39 (args1 rfl) (m_impl_HandsFree_fn (oT.vw hS42.g1 hS42.g2 he21) hm)) ?_
    rintro _ w45 ⟨r48, hm, rfl, hE46⟩
    have hB49 := hB43.trans (Ext.stp hE46 hS42.base)
    have hS50 := hS42.ext hE46
    refine wl_val (g_assign (v := .int .i64 r48) rfl) rfl ?_
    refine wl_nil ?_
    refine hK44 _ _ ?_
    refine w_seq fun K51 hK51 => ?_
    refine w_seq fun K52 hK52 => ?_
    refine w_region ?_
    refine wl_val (g_move (v := .int .i64 r48) rfl) rfl ?_
    refine wl_val (g_lss (a := r48) (b := 0) rfl rfl) rfl ?_
    refine wl_val (g_move (v := .bool (decide (r48 < 0))) rfl) rfl ?_
    refine wl_guard (c := (decide (r48 < 0)) = false) (val := .bool r41) (b := ((decide (r48 < 0)) == false)) (gv_some rfl rfl rfl) beq_iff_eq (fun hc53 => ?_) ?_
    · have hcq0 : ¬ (r48 < 0) := (i_neg decide_eq_true_iff hc53)
      exact g_move (v := .bool r41) rfl
    refine wl_guard (c := (decide (r48 < 0)) = false) (val := .bool r41) (b := ((decide (r48 < 0)) == false)) (gv_some rfl rfl rfl) beq_iff_eq (fun hc54 => ?_) ?_
    · have hcq0 : ¬ (r48 < 0) := (i_neg decide_eq_true_iff hc54)
      exact g_move (v := .bool r41) (if_pos hc54)
    refine wl_guard (c := ((decide (r48 < 0)) = false) ∧ r41 = true) (val := .slice a17 n18 c19) (b := decide (((decide (r48 < 0)) = false) ∧ r41 = true)) (gv_gd rfl rfl rfl) decide_eq_true_iff (fun hc55 => ?_) ?_
    · have hcq1 : (¬ (r48 < 0)) ∧ (r41 = true) := ⟨(i_neg decide_eq_true_iff (hc55).1), Iff.rfl.mp (hc55).2⟩
      have hcq0 := (hcq1).1
      exact g_move (v := .slice a17 n18 c19) rfl
    refine wl_guard (c := ((decide (r48 < 0)) = false) ∧ r41 = true) (val := .slice a26 n27 c28) (b := decide (((decide (r48 < 0)) = false) ∧ r41 = true)) (gv_gd rfl rfl rfl) decide_eq_true_iff (fun hc56 => ?_) ?_
    · have hcq1 : (¬ (r48 < 0)) ∧ (r41 = true) := ⟨(i_neg decide_eq_true_iff (hc56).1), Iff.rfl.mp (hc56).2⟩
      have hcq0 := (hcq1).1
      exact g_move (v := .slice a26 n27 c28) rfl
    refine wl_guard (c := ((decide (r48 < 0)) = false) ∧ r41 = true) (val := .slice a37 n38 c39) (b := decide (((decide (r48 < 0)) = false) ∧ r41 = true)) (gv_gd rfl rfl rfl) decide_eq_true_iff (fun hc57 => ?_) ?_
    · have hcq1 : (¬ (r48 < 0)) ∧ (r41 = true) := ⟨(i_neg decide_eq_true_iff (hc57).1), Iff.rfl.mp (hc57).2⟩
      have hcq0 := (hcq1).1
      exact g_move (v := .slice a37 n38 c39) rfl
    obtain ⟨r59, hk60, hm⟩ := hm
    refine wl_guardE (X := Ext) (c := ((decide (r48 < 0)) = false) ∧ r41 = true) (val := .bool r59) (Ext.refl _) (b := decide (((decide (r48 < 0)) = false) ∧ r41 = true)) (gv_gd rfl rfl rfl) decide_eq_true_iff (fun hc58 => ?_) (fun w61 hE62 => ?_)
    · have hcq1 : (¬ (r48 < 0)) ∧ (r41 = true) := ⟨(i_neg decide_eq_true_iff (hc58).1), Iff.rfl.mp (hc58).2⟩
      have hcq0 := (hcq1).1
      exact (g_call (vs := #[.slice a17 n18 c19, .slice a26 n27 c28, .slice a37 n38 c39]) CF40 (args3 (if_pos hc58) (if_pos hc58) (if_pos hc58)) ((m_impl_IsCasting_fn (oT.vw hS50.g1 hS50.g2 he21) (oS.vw hS50.g3) (oS.vw hS50.g0) (hk60 hcq1)).mono fun _ _ ⟨_, h1, h2, h3⟩ => ⟨by rw [h2, h1], h3⟩))
    have hB63 := hB49.trans (Ext.stp hE62 hS50.base)
    have hS64 := hS50.ext hE62
    refine wl_guard (c := ((decide (r48 < 0)) = false) ∧ r41 = true) (val := .bool (!r59)) (b := decide (((decide (r48 < 0)) = false) ∧ r41 = true)) (gv_gd rfl rfl rfl) decide_eq_true_iff (fun hc65 => ?_) ?_
    · have hcq1 : (¬ (r48 < 0)) ∧ (r41 = true) := ⟨(i_neg decide_eq_true_iff (hc65).1), Iff.rfl.mp (hc65).2⟩
      have hcq0 := (hcq1).1
      exact g_not (a := r59) (if_pos hc65)
    refine wl_guard (c := ((decide (r48 < 0)) = false) ∧ r41 = true) (val := .bool (!r59)) (b := decide (((decide (r48 < 0)) = false) ∧ r41 = true)) (gv_gd rfl rfl rfl) decide_eq_true_iff (fun hc66 => ?_) ?_
    · have hcq1 : (¬ (r48 < 0)) ∧ (r41 = true) := ⟨(i_neg decide_eq_true_iff (hc66).1), Iff.rfl.mp (hc66).2⟩
      have hcq0 := (hcq1).1
      exact g_move (v := .bool (!r59)) (if_pos hc66)
    refine wl_guard (c := (((decide (r48 < 0)) = false) ∧ r41 = true) ∧ (!r59) = false) (val := .slice a26 n27 c28) (b := decide ((((decide (r48 < 0)) = false) ∧ r41 = true) ∧ (!r59) = false)) (gv_gd rfl rfl rfl) decide_eq_true_iff (fun hc67 => ?_) ?_
    · have hcq2 : ((¬ (r48 < 0)) ∧ (r41 = true)) ∧ (¬ (¬ (r59 = true))) := ⟨⟨(i_neg decide_eq_true_iff ((hc67).1).1), Iff.rfl.mp ((hc67).1).2⟩, i_neg (i_not Iff.rfl) (hc67).2⟩
      have hcq1 := (hcq2).1
      have hcq0 := (hcq1).1
      exact g_move (v := .slice a26 n27 c28) rfl
    refine wl_guard (c := (((decide (r48 < 0)) = false) ∧ r41 = true) ∧ (!r59) = false) (val := .int .i64 (r25.length : Int)) (b := decide ((((decide (r48 < 0)) = false) ∧ r41 = true) ∧ (!r59) = false)) (gv_gd rfl rfl rfl) decide_eq_true_iff (fun hc68 => ?_) ?_
    · have hcq2 : ((¬ (r48 < 0)) ∧ (r41 = true)) ∧ (¬ (¬ (r59 = true))) := ⟨⟨(i_neg decide_eq_true_iff ((hc68).1).1), Iff.rfl.mp ((hc68).1).2⟩, i_neg (i_not Iff.rfl) (hc68).2⟩
      have hcq1 := (hcq2).1
      have hcq0 := (hcq1).1
      exact q_len SL23 (if_pos hc68) (Vw.len (oS.vw hS64.g3))
    refine wl_guard (c := (((decide (r48 < 0)) = false) ∧ r41 = true) ∧ (!r59) = false) (val := .int .i64 r48) (b := decide ((((decide (r48 < 0)) = false) ∧ r41 = true) ∧ (!r59) = false)) (gv_gd rfl rfl rfl) decide_eq_true_iff (fun hc69 => ?_) ?_
    · have hcq2 : ((¬ (r48 < 0)) ∧ (r41 = true)) ∧ (¬ (¬ (r59 = true))) := ⟨⟨(i_neg decide_eq_true_iff ((hc69).1).1), Iff.rfl.mp ((hc69).1).2⟩, i_neg (i_not Iff.rfl) (hc69).2⟩
      have hcq1 := (hcq2).1
      have hcq0 := (hcq1).1
      exact g_move (v := .int .i64 r48) rfl
    refine wl_guard (c := (((decide (r48 < 0)) = false) ∧ r41 = true) ∧ (!r59) = false) (val := .bool (decide ((r25.length : Int) > r48))) (b := decide ((((decide (r48 < 0)) = false) ∧ r41 = true) ∧ (!r59) = false)) (gv_gd rfl rfl rfl) decide_eq_true_iff (fun hc70 => ?_) ?_
    · have hcq2 : ((¬ (r48 < 0)) ∧ (r41 = true)) ∧ (¬ (¬ (r59 = true))) := ⟨⟨(i_neg decide_eq_true_iff ((hc70).1).1), Iff.rfl.mp ((hc70).1).2⟩, i_neg (i_not Iff.rfl) (hc70).2⟩
      have hcq1 := (hcq2).1
      have hcq0 := (hcq1).1
      exact g_gtr (a := (r25.length : Int)) (b := r48) (if_pos hc70) (if_pos hc70)
    refine wl_guard (c := ((decide (r48 < 0)) = false) ∧ r41 = true) (val := .bool ((!r59) || (decide ((r25.length : Int) > r48)))) (b := decide (((decide (r48 < 0)) = false) ∧ r41 = true)) (gv_gd rfl rfl rfl) decide_eq_true_iff (fun hc71 => ?_) ?_
    · have hcq1 : (¬ (r48 < 0)) ∧ (r41 = true) := ⟨(i_neg decide_eq_true_iff (hc71).1), Iff.rfl.mp (hc71).2⟩
      have hcq0 := (hcq1).1
      exact g_pick_or (b := (!r59)) (q := (decide ((r25.length : Int) > r48))) (if_pos hc71) (gd_in hc71)
    refine wl_guard (c := (decide (r48 < 0)) = false) (val := .bool (r41 && ((!r59) || (decide ((r25.length : Int) > r48))))) (b := ((decide (r48 < 0)) == false)) (gv_some rfl rfl rfl) beq_iff_eq (fun hc72 => ?_) ?_
    · have hcq0 : ¬ (r48 < 0) := (i_neg decide_eq_true_iff hc72)
      exact g_pick_and (b := r41) (q := ((!r59) || (decide ((r25.length : Int) > r48)))) (if_pos hc72) (gd_in hc72)
    refine wl_val (g_pick_or (b := (decide (r48 < 0))) (q := (r41 && ((!r59) || (decide ((r25.length : Int) > r48))))) rfl rfl) rfl ?_
    refine wl_val (g_move (v := .bool ((decide (r48 < 0)) || (r41 && ((!r59) || (decide ((r25.length : Int) > r48)))))) rfl) rfl ?_
    refine wl_guard (c := ((decide (r48 < 0)) || (r41 && ((!r59) || (decide ((r25.length : Int) > r48))))) = false) (val := .bool r41) (b := (((decide (r48 < 0)) || (r41 && ((!r59) || (decide ((r25.length : Int) > r48))))) == false)) (gv_some rfl rfl rfl) beq_iff_eq (fun hc73 => ?_) ?_
    · have hcq3 : ¬ (((r48 < 0) ∨ (((r41 = true) ∧ (((¬ (r59 = true)) ∨ ((r25.length : Int) > r48))))))) := (i_neg (i_or decide_eq_true_iff (i_and Iff.rfl (i_or (i_not Iff.rfl) decide_eq_true_iff))) hc73)
      exact g_move (v := .bool r41) rfl
    refine wl_guard (c := ((decide (r48 < 0)) || (r41 && ((!r59) || (decide ((r25.length : Int) > r48))))) = false) (val := .bool (!r41)) (b := (((decide (r48 < 0)) || (r41 && ((!r59) || (decide ((r25.length : Int) > r48))))) == false)) (gv_some rfl rfl rfl) beq_iff_eq (fun hc74 => ?_) ?_
    · have hcq3 : ¬ (((r48 < 0) ∨ (((r41 = true) ∧ (((¬ (r59 = true)) ∨ ((r25.length : Int) > r48))))))) := (i_neg (i_or decide_eq_true_iff (i_and Iff.rfl (i_or (i_not Iff.rfl) decide_eq_true_iff))) hc74)
      exact g_not (a := r41) (if_pos hc74)
    refine wl_guard (c := ((decide (r48 < 0)) || (r41 && ((!r59) || (decide ((r25.length : Int) > r48))))) = false) (val := .bool (!r41)) (b := (((decide (r48 < 0)) || (r41 && ((!r59) || (decide ((r25.length : Int) > r48))))) == false)) (gv_some rfl rfl rfl) beq_iff_eq (fun hc75 => ?_) ?_
    · have hcq3 : ¬ (((r48 < 0) ∨ (((r41 = true) ∧ (((¬ (r59 = true)) ∨ ((r25.length : Int) > r48))))))) := (i_neg (i_or decide_eq_true_iff (i_and Iff.rfl (i_or (i_not Iff.rfl) decide_eq_true_iff))) hc75)
      exact g_move (v := .bool (!r41)) (if_pos hc75)
    refine wl_guard (c := (((decide (r48 < 0)) || (r41 && ((!r59) || (decide ((r25.length : Int) > r48))))) = false) ∧ (!r41) = true) (val := .slice a37 n38 c39) (b := decide ((((decide (r48 < 0)) || (r41 && ((!r59) || (decide ((r25.length : Int) > r48))))) = false) ∧ (!r41) = true)) (gv_gd rfl rfl rfl) decide_eq_true_iff (fun hc76 => ?_) ?_
    · have hcq4 : (¬ (((r48 < 0) ∨ (((r41 = true) ∧ (((¬ (r59 = true)) ∨ ((r25.length : Int) > r48)))))))) ∧ (¬ (r41 = true)) := ⟨(i_neg (i_or decide_eq_true_iff (i_and Iff.rfl (i_or (i_not Iff.rfl) decide_eq_true_iff))) (hc76).1), (i_not Iff.rfl).mp (hc76).2⟩
      have hcq3 := (hcq4).1
      exact g_move (v := .slice a37 n38 c39) rfl
    refine wl_guard (c := (((decide (r48 < 0)) || (r41 && ((!r59) || (decide ((r25.length : Int) > r48))))) = false) ∧ (!r41) = true) (val := .int .i64 (r36.length : Int)) (b := decide ((((decide (r48 < 0)) || (r41 && ((!r59) || (decide ((r25.length : Int) > r48))))) = false) ∧ (!r41) = true)) (gv_gd rfl rfl rfl) decide_eq_true_iff (fun hc77 => ?_) ?_
    · have hcq4 : (¬ (((r48 < 0) ∨ (((r41 = true) ∧ (((¬ (r59 = true)) ∨ ((r25.length : Int) > r48)))))))) ∧ (¬ (r41 = true)) := ⟨(i_neg (i_or decide_eq_true_iff (i_and Iff.rfl (i_or (i_not Iff.rfl) decide_eq_true_iff))) (hc77).1), (i_not Iff.rfl).mp (hc77).2⟩
      have hcq3 := (hcq4).1
      exact q_len SL23 (if_pos hc77) (Vw.len (oS.vw hS64.g0))
    refine wl_guard (c := (((decide (r48 < 0)) || (r41 && ((!r59) || (decide ((r25.length : Int) > r48))))) = false) ∧ (!r41) = true) (val := .bool (decide ((r36.length : Int) ≠ 0))) (b := decide ((((decide (r48 < 0)) || (r41 && ((!r59) || (decide ((r25.length : Int) > r48))))) = false) ∧ (!r41) = true)) (gv_gd rfl rfl rfl) decide_eq_true_iff (fun hc78 => ?_) ?_
    · have hcq4 : (¬ (((r48 < 0) ∨ (((r41 = true) ∧ (((¬ (r59 = true)) ∨ ((r25.length : Int) > r48)))))))) ∧ (¬ (r41 = true)) := ⟨(i_neg (i_or decide_eq_true_iff (i_and Iff.rfl (i_or (i_not Iff.rfl) decide_eq_true_iff))) (hc78).1), (i_not Iff.rfl).mp (hc78).2⟩
      have hcq3 := (hcq4).1
      exact g_neq (a := (r36.length : Int)) (b := 0) (if_pos hc78) rfl
    refine wl_guard (c := ((decide (r48 < 0)) || (r41 && ((!r59) || (decide ((r25.length : Int) > r48))))) = false) (val := .bool ((!r41) && (decide ((r36.length : Int) ≠ 0)))) (b := (((decide (r48 < 0)) || (r41 && ((!r59) || (decide ((r25.length : Int) > r48))))) == false)) (gv_some rfl rfl rfl) beq_iff_eq (fun hc79 => ?_) ?_
    · have hcq3 : ¬ (((r48 < 0) ∨ (((r41 = true) ∧ (((¬ (r59 = true)) ∨ ((r25.length : Int) > r48))))))) := (i_neg (i_or decide_eq_true_iff (i_and Iff.rfl (i_or (i_not Iff.rfl) decide_eq_true_iff))) hc79)
      exact g_pick_and (b := (!r41)) (q := (decide ((r36.length : Int) ≠ 0))) (if_pos hc79) (gd_in hc79)
    refine wl_val (g_pick_or (b := ((decide (r48 < 0)) || (r41 && ((!r59) || (decide ((r25.length : Int) > r48)))))) (q := ((!r41) && (decide ((r36.length : Int) ≠ 0)))) rfl rfl) rfl ?_
    refine wl_nil ?_
    refine hK52 _ _ ?_
    refine w_condI (p := ((((r48 < 0) ∨ (((r41 = true) ∧ (((¬ (r59 = true)) ∨ ((r25.length : Int) > r48))))))) ∨ (((¬ (r41 = true)) ∧ ((r36.length : Int) ≠ 0))))) (b := (((decide (r48 < 0)) || (r41 && ((!r59) || (decide ((r25.length : Int) > r48))))) || ((!r41) && (decide ((r36.length : Int) ≠ 0))))) rfl (i_or (i_or decide_eq_true_iff (i_and Iff.rfl (i_or (i_not Iff.rfl) decide_eq_true_iff))) (i_and (i_not Iff.rfl) decide_eq_true_iff)) (fun h80 => ?_) (fun h80 => ?_)
    · replace hm := hm.1 h80
      refine w_seq fun K81 hK81 => ?_
      refine w_region ?_
      refine wl_val (g_assign (v := .bool false) rfl) rfl ?_
      refine wl_nil ?_
      refine hK81 _ _ ?_
      refine w_ret ?_
      repeat first | with_reducible refine q_then ?_ | with_reducible refine q_block ?_
      exact ret1 rfl (by decide) ⟨_, hm, rfl, toExt hB63⟩
    · replace hm := hm.2 h80
      refine w_skip ?_
      refine hK51 _ _ ?_
      refine w_cut (σ := Unit) (fun _ => [(3, .slice a17 n18 c19), (4, .slice a26 n27 c28), (5, .slice a37 n38 c39), (6, .bool r41)]) (fun _ w' => m_laws_FnHands_K2 r16 r25 r36 r41 Q ∧ Below w.heap.size w w' ∧ Sep w' w.heap.size [oS 54 a17 n18 c19 (y20 : List PlayerD), oT 3 (y20 : List PlayerD), oS 3 a26 n27 c28 (r25 : List Int), oS 3 a37 n38 c39 (r36 : List Int)]) ?_ ?_
      · refine w_seq fun K83 hK83 => ?_
        refine w_region ?_
        refine wl_val (g_move (v := .bool r41) rfl) rfl ?_
        refine wl_nil ?_
        refine hK83 _ _ ?_
        refine w_condI (p := r41 = true) (b := r41) rfl Iff.rfl (fun h84 => ?_) (fun h84 => ?_)
        · replace hm := hm.1 h84
          refine w_seq fun K85 hK85 => ?_
          refine w_region ?_
          refine wl_val (g_move (v := .slice a17 n18 c19) rfl) rfl ?_
          refine wl_val (g_move (v := .slice a37 n38 c39) rfl) rfl ?_
          refine wl_step rfl (g_call (vs := #[.slice a17 n18 c19, .slice a37 n38 c39]) CF41 (args2 rfl rfl) (m_impl_LoadOf_fn (oT.vw hS64.g1 hS64.g2 he21) (oS.vw hS64.g0) hm)) ?_
          rintro _ w86 ⟨r89, a90, n91, c92, hm, rfl, hE87, hN88⟩
          have hS94 := hS64.call1 hE87 hN88
          have hB95 := hB63.trans (Ext.stp hE87 hS64.base)
          refine wl_val (g_assign (v := .slice a90 n91 c92) rfl) rfl ?_
          refine wl_nil ?_
          refine hK85 _ _ ?_
          refine w_seq fun K96 hK96 => ?_
          refine w_region ?_
          refine wl_val (g_assign (v := .int .i64 0) rfl) rfl ?_
          refine wl_nil ?_
          refine hK96 _ _ ?_
          refine w_cut (σ := Int) (fun v315 => [(3, .slice a17 n18 c19), (4, .slice a26 n27 c28), (5, .slice a37 n38 c39), (6, .bool r41), (8, .slice a90 n91 c92), (9, .int .i64 v315)]) (fun v315 w' => m_laws_FnHands_K0 r16 r25 r89 Q (m_laws_FnHands_K2 r16 r25 r36 r41 Q) v315 ∧ Below w.heap.size w w' ∧ Sep w' w.heap.size [oS 54 a17 n18 c19 (y20 : List PlayerD), oT 3 (y20 : List PlayerD), oS 3 a26 n27 c28 (r25 : List Int), oS 3 a37 n38 c39 (r36 : List Int), oS 3 a90 n91 c92 (r89 : List Int)]) ?_ ?_
          · refine w_seq fun K317 hK317 => ?_
            refine w_region ?_
            refine wl_val (g_assign (v := .int .i64 0) rfl) rfl ?_
            refine wl_nil ?_
            refine hK317 _ _ ?_
            refine w_block ?_
            have hS320 := hS94.f1
            have hS321 := hS320.f4
            have hS322 := hS321.f4
            have hS323 := hS322.f4
            obtain ⟨I324, μ325, h0326, hr327⟩ := hm
            refine w_for (σ := Int × Int) (fun ⟨v318, v319⟩ => [(3, .slice a17 n18 c19), (4, .slice a26 n27 c28), (5, .slice a37 n38 c39), (6, .bool r41), (8, .slice a90 n91 c92), (9, .int .i64 v318), (10, .int .i64 v319)]) (fun ⟨v318, v319⟩ w' => I324 v318 v319 ∧ Below w.heap.size w w' ∧ Sep w' w.heap.size [oS 54 a17 n18 c19 (y20 : List PlayerD), oT 3 (y20 : List PlayerD), oS 3 a26 n27 c28 (r25 : List Int), oS 3 a37 n38 c39 (r36 : List Int), oS 3 a90 n91 c92 (r89 : List Int)]) (fun ⟨v318, v319⟩ => μ325 v318 v319) (0, 0) ⟨rfl, rfl, rfl, rfl, rfl, rfl, rfl, trivial⟩ ⟨h0326, hB95, hS323⟩ ?_
            rintro ⟨v318, v319⟩ b_ w328 ⟨hi_, hB329, hS330⟩
            show Wp _ _ _ _ (upds b_ [(3, .slice a17 n18 c19), (4, .slice a26 n27 c28), (5, .slice a37 n38 c39), (6, .bool r41), (8, .slice a90 n91 c92), (9, .int .i64 v318), (10, .int .i64 v319)]) w328
            have hm := hr327 v318 v319 hi_
            refine w_seq fun K332 hK332 => ?_
            refine w_seq fun K333 hK333 => ?_
            refine w_region ?_
            refine wl_val (g_move (v := .int .i64 v319) rfl) rfl ?_
            refine wl_val (g_move (v := .slice a90 n91 c92) rfl) rfl ?_
            refine wl_val (q_len SL23 rfl (Vw.len (oS.vw hS330.g4))) rfl ?_
            refine wl_val (g_lss (a := v319) (b := (r89.length : Int)) rfl rfl) rfl ?_
            refine wl_nil ?_
            refine hK333 _ _ ?_
            refine w_condI (p := v319 < (r89.length : Int)) (b := (decide (v319 < (r89.length : Int)))) rfl decide_eq_true_iff (fun h334 => ?_) (fun h334 => ?_)
            · replace hm := hm.1 h334
              refine w_skip ?_
              refine hK332 _ _ ?_
              refine w_seq fun K335 hK335 => ?_
              refine w_block ?_
              refine w_seq fun K336 hK336 => ?_
              refine w_region ?_
              refine wl_val (g_move (v := .int .i64 v318) rfl) rfl ?_
              refine wl_val (g_move (v := .slice a90 n91 c92) rfl) rfl ?_
              refine wl_val (g_move (v := .int .i64 v319) rfl) rfl ?_
              obtain ⟨hg337, hm⟩ := hm
              refine wl_val (q_index (i := v319) SL23 rfl rfl (oS.vw hS330.g4) hg337) rfl ?_
              refine wl_val (q_load (i := v319) (v := .int .i64 (r89[(Int.toNat v319)]!)) ON3 (oS.vw hS330.g4) hg337 rfl rfl) rfl ?_
              obtain ⟨hg338, hm⟩ := hm
              refine wl_val (g_add (a := v318) (b := r89[(Int.toNat v319)]!) rfl rfl hg338) rfl ?_
              refine wl_val (g_assign (v := .int .i64 (v318 + r89[(Int.toNat v319)]!)) rfl) rfl ?_
              refine wl_nil ?_
              refine hK336 _ _ ?_
              refine w_seq fun K339 hK339 => ?_
              refine w_draw (X := Ext) (Y := Ext) [] MIX (by decide +kernel) rfl Ext.refl (fun _ _ _ => Ext.trans) (fun _ _ _ => Chg.trans) (fun _ _ h => Ext.chg h _) (fun w340 hE341 => ?_)
              have hB342 := hB329.trans (Ext.stp hE341 hS330.base)
              have hS343 := hS330.ext hE341
              refine ⟨.int .i64 v319, fun w344 hX345 => od_plain rfl (by have hS346 := hS343.ext hX345; have hB347 := hB342.trans (Ext.stp hX345 hS343.base); exact is_ext (g_move (v := .int .i64 v319) rfl)), ?_⟩
              refine ⟨.slice a17 n18 c19, fun w348 hX349 => od_plain rfl (by have hS350 := hS343.ext hX349; have hB351 := hB342.trans (Ext.stp hX349 hS343.base); exact is_ext (g_move (v := .slice a17 n18 c19) rfl)), ?_⟩
              refine ⟨.int .i64 (r16.length : Int), fun w352 hX353 => od_plain rfl (by have hS354 := hS343.ext hX353; have hB355 := hB342.trans (Ext.stp hX353 hS343.base); exact is_ext (q_len SL27 rfl (Tv.len (oT.vw hS354.g0 hS354.g1 he21)))), ?_⟩
              refine ⟨.bool (decide (v319 < (r16.length : Int))), fun w356 hX357 => od_plain rfl (by have hS358 := hS343.ext hX357; have hB359 := hB342.trans (Ext.stp hX357 hS343.base); exact is_ext (g_lss (a := v319) (b := (r16.length : Int)) rfl rfl)), ?_⟩
              refine ⟨.bool (decide (v319 < (r16.length : Int))), fun w360 hX361 => od_plain rfl (by have hS362 := hS343.ext hX361; have hB363 := hB342.trans (Ext.stp hX361 hS343.base); exact is_ext (g_move (v := .bool (decide (v319 < (r16.length : Int)))) rfl)), ?_⟩
              refine ⟨if (decide (v319 < (r16.length : Int))) = true then .slice a90 n91 c92 else undef, fun w364 hX365 => od_guard (c := (decide (v319 < (r16.length : Int))) = true) (val := .slice a90 n91 c92) (b := ((decide (v319 < (r16.length : Int))) == true)) (gv_some rfl rfl rfl) beq_iff_eq (fun hc368 => ?_), ?_⟩
              · have hS366 := hS343.ext hX365
                have hB367 := hB342.trans (Ext.stp hX365 hS343.base)
                have hcq7 : v319 < (r16.length : Int) := (decide_eq_true_iff.mp hc368)
                exact is_ext (g_move (v := .slice a90 n91 c92) rfl)
              refine ⟨if (decide (v319 < (r16.length : Int))) = true then .int .i64 v319 else undef, fun w369 hX370 => od_guard (c := (decide (v319 < (r16.length : Int))) = true) (val := .int .i64 v319) (b := ((decide (v319 < (r16.length : Int))) == true)) (gv_some rfl rfl rfl) beq_iff_eq (fun hc373 => ?_), ?_⟩
              · have hS371 := hS343.ext hX370
                have hB372 := hB342.trans (Ext.stp hX370 hS343.base)
                have hcq7 : v319 < (r16.length : Int) := (decide_eq_true_iff.mp hc373)
                exact is_ext (g_move (v := .int .i64 v319) rfl)
              obtain ⟨hg379, hm⟩ := hm
              refine ⟨if (decide (v319 < (r16.length : Int))) = true then .pointer (some ((adr a90).add ((Int.toNat v319) * El.m Int))) else undef, fun w374 hX375 => od_guard (c := (decide (v319 < (r16.length : Int))) = true) (val := .pointer (some ((adr a90).add ((Int.toNat v319) * El.m Int)))) (b := ((decide (v319 < (r16.length : Int))) == true)) (gv_some rfl rfl rfl) beq_iff_eq (fun hc378 => ?_), ?_⟩
              · have hS376 := hS343.ext hX375
                have hB377 := hB342.trans (Ext.stp hX375 hS343.base)
                have hcq7 : v319 < (r16.length : Int) := (decide_eq_true_iff.mp hc378)
                exact is_ext (q_index (i := v319) SL23 (if_pos hc378) (if_pos hc378) (oS.vw hS376.g4) (hg379 hcq7))
              refine ⟨if (decide (v319 < (r16.length : Int))) = true then .int .i64 (r89[(Int.toNat v319)]!) else undef, fun w380 hX381 => od_guard (c := (decide (v319 < (r16.length : Int))) = true) (val := .int .i64 (r89[(Int.toNat v319)]!)) (b := ((decide (v319 < (r16.length : Int))) == true)) (gv_some rfl rfl rfl) beq_iff_eq (fun hc384 => ?_), ?_⟩
              · have hS382 := hS343.ext hX381
                have hB383 := hB342.trans (Ext.stp hX381 hS343.base)
                have hcq7 : v319 < (r16.length : Int) := (decide_eq_true_iff.mp hc384)
                exact is_ext (q_load (i := v319) (v := .int .i64 (r89[(Int.toNat v319)]!)) ON3 (oS.vw hS382.g4) (hg379 hcq7) rfl (if_pos hc384))
              refine ⟨if (decide (v319 < (r16.length : Int))) = true then .slice a17 n18 c19 else undef, fun w385 hX386 => od_guard (c := (decide (v319 < (r16.length : Int))) = true) (val := .slice a17 n18 c19) (b := ((decide (v319 < (r16.length : Int))) == true)) (gv_some rfl rfl rfl) beq_iff_eq (fun hc389 => ?_), ?_⟩
              · have hS387 := hS343.ext hX386
                have hB388 := hB342.trans (Ext.stp hX386 hS343.base)
                have hcq7 : v319 < (r16.length : Int) := (decide_eq_true_iff.mp hc389)
                exact is_ext (g_move (v := .slice a17 n18 c19) rfl)
              refine ⟨if (decide (v319 < (r16.length : Int))) = true then .int .i64 v319 else undef, fun w390 hX391 => od_guard (c := (decide (v319 < (r16.length : Int))) = true) (val := .int .i64 v319) (b := ((decide (v319 < (r16.length : Int))) == true)) (gv_some rfl rfl rfl) beq_iff_eq (fun hc394 => ?_), ?_⟩
              · have hS392 := hS343.ext hX391
                have hB393 := hB342.trans (Ext.stp hX391 hS343.base)
                have hcq7 : v319 < (r16.length : Int) := (decide_eq_true_iff.mp hc394)
                exact is_ext (g_move (v := .int .i64 v319) rfl)
              obtain ⟨hg400, hm⟩ := hm
              refine ⟨if (decide (v319 < (r16.length : Int))) = true then .pointer (some ((adr a17).add ((Int.toNat v319) * El.m PlayerD))) else undef, fun w395 hX396 => od_guard (c := (decide (v319 < (r16.length : Int))) = true) (val := .pointer (some ((adr a17).add ((Int.toNat v319) * El.m PlayerD)))) (b := ((decide (v319 < (r16.length : Int))) == true)) (gv_some rfl rfl rfl) beq_iff_eq (fun hc399 => ?_), ?_⟩
              · have hS397 := hS343.ext hX396
                have hB398 := hB342.trans (Ext.stp hX396 hS343.base)
                have hcq7 : v319 < (r16.length : Int) := (decide_eq_true_iff.mp hc399)
                exact is_ext (q_index (i := v319) SL27 (if_pos hc399) (if_pos hc399) (Tv.o (oT.vw hS397.g0 hS397.g1 he21)) (Tv.g (oT.vw hS397.g0 hS397.g1 he21) (hg400 hcq7)))
              refine ⟨if (decide (v319 < (r16.length : Int))) = true then .pointer (some (((adr a17).add ((Int.toNat v319) * El.m PlayerD)).add 1)) else undef, fun w401 hX402 => od_guard (c := (decide (v319 < (r16.length : Int))) = true) (val := .pointer (some (((adr a17).add ((Int.toNat v319) * El.m PlayerD)).add 1))) (b := ((decide (v319 < (r16.length : Int))) == true)) (gv_some rfl rfl rfl) beq_iff_eq (fun hc405 => ?_), ?_⟩
              · have hS403 := hS343.ext hX402
                have hB404 := hB342.trans (Ext.stp hX402 hS343.base)
                have hcq7 : v319 < (r16.length : Int) := (decide_eq_true_iff.mp hc405)
                exact is_ext (g_fieldAddr (q := (adr a17).add ((Int.toNat v319) * El.m PlayerD)) FL54_1 ON3 (if_pos hc405))
              refine ⟨if (decide (v319 < (r16.length : Int))) = true then .int .i64 (r16[(Int.toNat v319)]!.2) else undef, fun w406 hX407 => od_guard (c := (decide (v319 < (r16.length : Int))) = true) (val := .int .i64 (r16[(Int.toNat v319)]!.2)) (b := ((decide (v319 < (r16.length : Int))) == true)) (gv_some rfl rfl rfl) beq_iff_eq (fun hc410 => ?_), ?_⟩
              · have hS408 := hS343.ext hX407
                have hB409 := hB342.trans (Ext.stp hX407 hS343.base)
                have hcq7 : v319 < (r16.length : Int) := (decide_eq_true_iff.mp hc410)
                exact is_ext (q_loadF (i := v319) (j := 1) (v := .int .i64 (r16[(Int.toNat v319)]!.2)) ON3 (Tv.o (oT.vw hS408.g0 hS408.g1 he21)) (Tv.g (oT.vw hS408.g0 hS408.g1 he21) (hg400 hcq7)) (by rw [← Tv.free (oT.vw hS408.g0 hS408.g1 he21) (hg400 hcq7)]; rfl) (if_pos hc410))
              refine ⟨if (decide (v319 < (r16.length : Int))) = true then .bool (decide (r89[(Int.toNat v319)]! > r16[(Int.toNat v319)]!.2)) else undef, fun w411 hX412 => od_guard (c := (decide (v319 < (r16.length : Int))) = true) (val := .bool (decide (r89[(Int.toNat v319)]! > r16[(Int.toNat v319)]!.2))) (b := ((decide (v319 < (r16.length : Int))) == true)) (gv_some rfl rfl rfl) beq_iff_eq (fun hc415 => ?_), ?_⟩
              · have hS413 := hS343.ext hX412
                have hB414 := hB342.trans (Ext.stp hX412 hS343.base)
                have hcq7 : v319 < (r16.length : Int) := (decide_eq_true_iff.mp hc415)
                exact is_ext (g_gtr (a := r89[(Int.toNat v319)]!) (b := r16[(Int.toNat v319)]!.2) (if_pos hc415) (if_pos hc415))
              refine ⟨.bool ((decide (v319 < (r16.length : Int))) && (decide (r89[(Int.toNat v319)]! > r16[(Int.toNat v319)]!.2))), fun w416 hX417 => od_plain rfl (by have hS418 := hS343.ext hX417; have hB419 := hB342.trans (Ext.stp hX417 hS343.base); exact is_ext (g_pick_and (b := (decide (v319 < (r16.length : Int)))) (q := (decide (r89[(Int.toNat v319)]! > r16[(Int.toNat v319)]!.2))) rfl rfl)), ?_⟩
              intro w420 hX421
              have hB422 := hB342.trans (Ext.stp hX421 hS343.base)
              have hS423 := hS343.ext hX421
              refine hK339 _ _ ?_
              refine w_condI (p := ((v319 < (r16.length : Int)) ∧ (r89[(Int.toNat v319)]! > r16[(Int.toNat v319)]!.2))) (b := ((decide (v319 < (r16.length : Int))) && (decide (r89[(Int.toNat v319)]! > r16[(Int.toNat v319)]!.2)))) rfl (i_and decide_eq_true_iff decide_eq_true_iff) (fun h424 => ?_) (fun h424 => ?_)
              · replace hm := hm.1 h424
                refine w_seq fun K425 hK425 => ?_
                refine w_region ?_
                refine wl_val (g_assign (v := .bool false) rfl) rfl ?_
                refine wl_nil ?_
                refine hK425 _ _ ?_
                refine w_ret ?_
                repeat first | with_reducible refine q_then ?_ | with_reducible refine q_block ?_
                exact ret1 rfl (by decide) ⟨_, hm, rfl, toExt hB422⟩
              · replace hm := hm.2 h424
                refine w_skip ?_
                refine hK335 _ _ ?_
                refine w_region ?_
                refine wl_val (g_move (v := .int .i64 v319) rfl) rfl ?_
                obtain ⟨hg426, hm⟩ := hm
                refine wl_val (g_add (a := v319) (b := 1) rfl rfl hg426) rfl ?_
                refine wl_val (g_assign (v := .int .i64 (v319 + 1)) rfl) rfl ?_
                refine wl_nil ?_
                exact ⟨((v318 + r89[(Int.toNat v319)]!), (v319 + 1)), hm.2, ⟨rfl, rfl, rfl, rfl, rfl, rfl, rfl, trivial⟩, ⟨hm.1, hB422, hS423⟩⟩
            · replace hm := hm.2 h334
              refine w_exit ?_
              exact ⟨(v318), ⟨rfl, rfl, rfl, rfl, rfl, rfl, trivial⟩, ⟨hm, hB329, hS330⟩⟩
          · rintro v315 b_ w427 ⟨hm, hB428, hS429⟩
            show Wp _ _ _ _ (upds b_ [(3, .slice a17 n18 c19), (4, .slice a26 n27 c28), (5, .slice a37 n38 c39), (6, .bool r41), (8, .slice a90 n91 c92), (9, .int .i64 v315)]) w427
            refine w_seq fun K430 hK430 => ?_
            refine w_region ?_
            refine wl_val (g_move (v := .int .i64 v315) rfl) rfl ?_
            refine wl_val (g_move (v := .slice a26 n27 c28) rfl) rfl ?_
            refine wl_val (q_len SL23 rfl (Vw.len (oS.vw hS429.g2))) rfl ?_
            refine wl_val (g_neq (a := v315) (b := (r25.length : Int)) rfl rfl) rfl ?_
            refine wl_val (g_move (v := .bool (decide (v315 ≠ (r25.length : Int)))) rfl) rfl ?_
            refine wl_guard (c := (decide (v315 ≠ (r25.length : Int))) = false) (val := .slice a90 n91 c92) (b := ((decide (v315 ≠ (r25.length : Int))) == false)) (gv_some rfl rfl rfl) beq_iff_eq (fun hc431 => ?_) ?_
            · have hcq8 : ¬ (v315 ≠ (r25.length : Int)) := (i_neg decide_eq_true_iff hc431)
              exact g_move (v := .slice a90 n91 c92) rfl
            refine wl_guard (c := (decide (v315 ≠ (r25.length : Int))) = false) (val := .int .i64 (r89.length : Int)) (b := ((decide (v315 ≠ (r25.length : Int))) == false)) (gv_some rfl rfl rfl) beq_iff_eq (fun hc432 => ?_) ?_
            · have hcq8 : ¬ (v315 ≠ (r25.length : Int)) := (i_neg decide_eq_true_iff hc432)
              exact q_len SL23 (if_pos hc432) (Vw.len (oS.vw hS429.g4))
            refine wl_guard (c := (decide (v315 ≠ (r25.length : Int))) = false) (val := .slice a17 n18 c19) (b := ((decide (v315 ≠ (r25.length : Int))) == false)) (gv_some rfl rfl rfl) beq_iff_eq (fun hc433 => ?_) ?_
            · have hcq8 : ¬ (v315 ≠ (r25.length : Int)) := (i_neg decide_eq_true_iff hc433)
              exact g_move (v := .slice a17 n18 c19) rfl
            refine wl_guard (c := (decide (v315 ≠ (r25.length : Int))) = false) (val := .int .i64 (r16.length : Int)) (b := ((decide (v315 ≠ (r25.length : Int))) == false)) (gv_some rfl rfl rfl) beq_iff_eq (fun hc434 => ?_) ?_
            · have hcq8 : ¬ (v315 ≠ (r25.length : Int)) := (i_neg decide_eq_true_iff hc434)
              exact q_len SL27 (if_pos hc434) (Tv.len (oT.vw hS429.g0 hS429.g1 he21))
            refine wl_guard (c := (decide (v315 ≠ (r25.length : Int))) = false) (val := .bool (decide ((r89.length : Int) ≠ (r16.length : Int)))) (b := ((decide (v315 ≠ (r25.length : Int))) == false)) (gv_some rfl rfl rfl) beq_iff_eq (fun hc435 => ?_) ?_
            · have hcq8 : ¬ (v315 ≠ (r25.length : Int)) := (i_neg decide_eq_true_iff hc435)
              exact g_neq (a := (r89.length : Int)) (b := (r16.length : Int)) (if_pos hc435) (if_pos hc435)
            refine wl_val (g_pick_or (b := (decide (v315 ≠ (r25.length : Int)))) (q := (decide ((r89.length : Int) ≠ (r16.length : Int)))) rfl rfl) rfl ?_
            refine wl_nil ?_
            refine hK430 _ _ ?_
            refine w_condI (p := ((v315 ≠ (r25.length : Int)) ∨ ((r89.length : Int) ≠ (r16.length : Int)))) (b := ((decide (v315 ≠ (r25.length : Int))) || (decide ((r89.length : Int) ≠ (r16.length : Int))))) rfl (i_or decide_eq_true_iff decide_eq_true_iff) (fun h436 => ?_) (fun h436 => ?_)
            · replace hm := hm.1 h436
              refine w_seq fun K437 hK437 => ?_
              refine w_region ?_
              refine wl_val (g_assign (v := .bool false) rfl) rfl ?_
              refine wl_nil ?_
              refine hK437 _ _ ?_
              refine w_ret ?_
              repeat first | with_reducible refine q_then ?_ | with_reducible refine q_block ?_
              exact ret1 rfl (by decide) ⟨_, hm, rfl, toExt hB428⟩
            · replace hm := hm.2 h436
              refine w_skip ?_
              have hS438 := hS429.f4
              have hS439 := hS438.tail
              exact ⟨(), ⟨rfl, rfl, rfl, rfl, trivial⟩, ⟨hm, hB428, hS439⟩⟩
        · replace hm := hm.2 h84
          refine w_skip ?_
          have hS440 := hS64.f3
          have hS441 := hS440.f3
          have hS442 := hS441.f3
          exact ⟨(), ⟨rfl, rfl, rfl, rfl, trivial⟩, ⟨hm, hB63, hS442⟩⟩
      · rintro _ b_ w443 ⟨hm, hB444, hS445⟩
        show Wp _ _ _ _ (upds b_ [(3, .slice a17 n18 c19), (4, .slice a26 n27 c28), (5, .slice a37 n38 c39), (6, .bool r41)]) w443
        refine w_cut (σ := Unit) (fun _ => [(3, .slice a17 n18 c19)]) (fun _ w' => m_laws_FnHands_K1 r16 Q ∧ Below w.heap.size w w' ∧ Sep w' w.heap.size [oS 54 a17 n18 c19 (y20 : List PlayerD), oT 3 (y20 : List PlayerD)]) ?_ ?_
        · refine w_seq fun K447 hK447 => ?_
          refine w_region ?_
          refine wl_val (g_assign (v := .int .i64 0) rfl) rfl ?_
          refine wl_nil ?_
          refine hK447 _ _ ?_
          refine w_block ?_
          obtain ⟨I495, μ496, h0497, hr498⟩ := hm
          refine w_for (σ := Int) (fun v494 => [(3, .slice a17 n18 c19), (4, .slice a26 n27 c28), (5, .slice a37 n38 c39), (6, .bool r41), (11, .int .i64 v494)]) (fun v494 w' => I495 v494 ∧ Below w.heap.size w w' ∧ Sep w' w.heap.size [oS 54 a17 n18 c19 (y20 : List PlayerD), oT 3 (y20 : List PlayerD), oS 3 a26 n27 c28 (r25 : List Int), oS 3 a37 n38 c39 (r36 : List Int)]) (fun v494 => μ496 v494) (0) ⟨rfl, rfl, rfl, rfl, rfl, trivial⟩ ⟨h0497, hB444, hS445⟩ ?_
          rintro v494 b_ w499 ⟨hi_, hB500, hS501⟩
          show Wp _ _ _ _ (upds b_ [(3, .slice a17 n18 c19), (4, .slice a26 n27 c28), (5, .slice a37 n38 c39), (6, .bool r41), (11, .int .i64 v494)]) w499
          have hm := hr498 v494 hi_
          refine w_seq fun K503 hK503 => ?_
          refine w_seq fun K504 hK504 => ?_
          refine w_region ?_
          refine wl_val (g_move (v := .int .i64 v494) rfl) rfl ?_
          refine wl_val (g_move (v := .slice a26 n27 c28) rfl) rfl ?_
          refine wl_val (q_len SL23 rfl (Vw.len (oS.vw hS501.g2))) rfl ?_
          refine wl_val (g_lss (a := v494) (b := (r25.length : Int)) rfl rfl) rfl ?_
          refine wl_nil ?_
          refine hK504 _ _ ?_
          refine w_condI (p := v494 < (r25.length : Int)) (b := (decide (v494 < (r25.length : Int)))) rfl decide_eq_true_iff (fun h505 => ?_) (fun h505 => ?_)
          · replace hm := hm.1 h505
            refine w_skip ?_
            refine hK503 _ _ ?_
            refine w_seq fun K506 hK506 => ?_
            refine w_block ?_
            refine w_seq fun K507 hK507 => ?_
            refine w_region ?_
            refine wl_val (g_move (v := .slice a17 n18 c19) rfl) rfl ?_
            refine wl_val (g_move (v := .slice a26 n27 c28) rfl) rfl ?_
            refine wl_val (g_move (v := .int .i64 v494) rfl) rfl ?_
            obtain ⟨hg508, hm⟩ := hm
            refine wl_val (q_index (i := v494) SL23 rfl rfl (oS.vw hS501.g2) hg508) rfl ?_
            refine wl_val (q_load (i := v494) (v := .int .i64 (r25[(Int.toNat v494)]!)) ON3 (oS.vw hS501.g2) hg508 rfl rfl) rfl ?_
            refine wl_step rfl (g_call (vs := #[.slice a17 n18 c19, .int .i64 (r25[(Int.toNat v494)]!)]) CF42 (args2 rfl rfl) (m_impl_WhoKnows_fn (oT.vw hS501.g0 hS501.g1 he21) (r25[(Int.toNat v494)]!) hm)) ?_
            rintro _ w509 ⟨r512, a513, n514, c515, hm, rfl, hE510, hN511⟩
            have hS517 := hS501.call1 hE510 hN511
            have hB518 := hB500.trans (Ext.stp hE510 hS501.base)
            refine wl_val (g_assign (v := .slice a513 n514 c515) rfl) rfl ?_
            refine wl_nil ?_
            refine hK507 _ _ ?_
            refine w_seq fun K519 hK519 => ?_
            refine w_region ?_
            refine wl_val (g_move (v := .slice a513 n514 c515) rfl) rfl ?_
            refine wl_val (q_len SL23 rfl (Vw.len (oS.vw hS517.g0))) rfl ?_
            refine wl_val (g_eql (a := (r512.length : Int)) (b := 0) rfl rfl) rfl ?_
            refine wl_val (g_move (v := .bool (decide ((r512.length : Int) = 0))) rfl) rfl ?_
            refine wl_guard (c := (decide ((r512.length : Int) = 0)) = true) (val := .bool r41) (b := ((decide ((r512.length : Int) = 0)) == true)) (gv_some rfl rfl rfl) beq_iff_eq (fun hc520 => ?_) ?_
            · have hcq12 : (r512.length : Int) = 0 := (decide_eq_true_iff.mp hc520)
              exact g_move (v := .bool r41) rfl
            refine wl_val (g_pick_and (b := (decide ((r512.length : Int) = 0))) (q := r41) rfl rfl) rfl ?_
            refine wl_val (g_move (v := .bool ((decide ((r512.length : Int) = 0)) && r41)) rfl) rfl ?_
            refine wl_guard (c := ((decide ((r512.length : Int) = 0)) && r41) = false) (val := .bool r41) (b := (((decide ((r512.length : Int) = 0)) && r41) == false)) (gv_some rfl rfl rfl) beq_iff_eq (fun hc521 => ?_) ?_
            · have hcq13 : ¬ ((((r512.length : Int) = 0) ∧ (r41 = true))) := (i_neg (i_and decide_eq_true_iff Iff.rfl) hc521)
              exact g_move (v := .bool r41) rfl
            refine wl_guard (c := ((decide ((r512.length : Int) = 0)) && r41) = false) (val := .bool r41) (b := (((decide ((r512.length : Int) = 0)) && r41) == false)) (gv_some rfl rfl rfl) beq_iff_eq (fun hc522 => ?_) ?_
            · have hcq13 : ¬ ((((r512.length : Int) = 0) ∧ (r41 = true))) := (i_neg (i_and decide_eq_true_iff Iff.rfl) hc522)
              exact g_move (v := .bool r41) (if_pos hc522)
            refine wl_guard (c := (((decide ((r512.length : Int) = 0)) && r41) = false) ∧ r41 = true) (val := .slice a513 n514 c515) (b := decide ((((decide ((r512.length : Int) = 0)) && r41) = false) ∧ r41 = true)) (gv_gd rfl rfl rfl) decide_eq_true_iff (fun hc523 => ?_) ?_
            · have hcq14 : (¬ ((((r512.length : Int) = 0) ∧ (r41 = true)))) ∧ (r41 = true) := ⟨(i_neg (i_and decide_eq_true_iff Iff.rfl) (hc523).1), Iff.rfl.mp (hc523).2⟩
              have hcq13 := (hcq14).1
              exact g_move (v := .slice a513 n514 c515) rfl
            refine wl_guard (c := (((decide ((r512.length : Int) = 0)) && r41) = false) ∧ r41 = true) (val := .slice a37 n38 c39) (b := decide ((((decide ((r512.length : Int) = 0)) && r41) = false) ∧ r41 = true)) (gv_gd rfl rfl rfl) decide_eq_true_iff (fun hc524 => ?_) ?_
            · have hcq14 : (¬ ((((r512.length : Int) = 0) ∧ (r41 = true)))) ∧ (r41 = true) := ⟨(i_neg (i_and decide_eq_true_iff Iff.rfl) (hc524).1), Iff.rfl.mp (hc524).2⟩
              have hcq13 := (hcq14).1
              exact g_move (v := .slice a37 n38 c39) rfl
            refine wl_guard (c := (((decide ((r512.length : Int) = 0)) && r41) = false) ∧ r41 = true) (val := .int .i64 v494) (b := decide ((((decide ((r512.length : Int) = 0)) && r41) = false) ∧ r41 = true)) (gv_gd rfl rfl rfl) decide_eq_true_iff (fun hc525 => ?_) ?_
            · have hcq14 : (¬ ((((r512.length : Int) = 0) ∧ (r41 = true)))) ∧ (r41 = true) := ⟨(i_neg (i_and decide_eq_true_iff Iff.rfl) (hc525).1), Iff.rfl.mp (hc525).2⟩
              have hcq13 := (hcq14).1
              exact g_move (v := .int .i64 v494) rfl
            obtain ⟨hg527, hm⟩ := hm
            refine wl_guard (c := (((decide ((r512.length : Int) = 0)) && r41) = false) ∧ r41 = true) (val := .pointer (some ((adr a37).add ((Int.toNat v494) * El.m Int)))) (b := decide ((((decide ((r512.length : Int) = 0)) && r41) = false) ∧ r41 = true)) (gv_gd rfl rfl rfl) decide_eq_true_iff (fun hc526 => ?_) ?_
            · have hcq14 : (¬ ((((r512.length : Int) = 0) ∧ (r41 = true)))) ∧ (r41 = true) := ⟨(i_neg (i_and decide_eq_true_iff Iff.rfl) (hc526).1), Iff.rfl.mp (hc526).2⟩
              have hcq13 := (hcq14).1
              exact q_index (i := v494) SL23 (if_pos hc526) (if_pos hc526) (oS.vw hS517.g4) (hg527 hcq14)
            refine wl_guard (c := (((decide ((r512.length : Int) = 0)) && r41) = false) ∧ r41 = true) (val := .int .i64 (r36[(Int.toNat v494)]!)) (b := decide ((((decide ((r512.length : Int) = 0)) && r41) = false) ∧ r41 = true)) (gv_gd rfl rfl rfl) decide_eq_true_iff (fun hc528 => ?_) ?_
            · have hcq14 : (¬ ((((r512.length : Int) = 0) ∧ (r41 = true)))) ∧ (r41 = true) := ⟨(i_neg (i_and decide_eq_true_iff Iff.rfl) (hc528).1), Iff.rfl.mp (hc528).2⟩
              have hcq13 := (hcq14).1
              exact q_load (i := v494) (v := .int .i64 (r36[(Int.toNat v494)]!)) ON3 (oS.vw hS517.g4) (hg527 hcq14) rfl (if_pos hc528)
            obtain ⟨r530, hk531, hm⟩ := hm
            refine wl_guardE (X := Ext) (c := (((decide ((r512.length : Int) = 0)) && r41) = false) ∧ r41 = true) (val := .bool r530) (Ext.refl _) (b := decide ((((decide ((r512.length : Int) = 0)) && r41) = false) ∧ r41 = true)) (gv_gd rfl rfl rfl) decide_eq_true_iff (fun hc529 => ?_) (fun w532 hE533 => ?_)
            · have hcq14 : (¬ ((((r512.length : Int) = 0) ∧ (r41 = true)))) ∧ (r41 = true) := ⟨(i_neg (i_and decide_eq_true_iff Iff.rfl) (hc529).1), Iff.rfl.mp (hc529).2⟩
              have hcq13 := (hcq14).1
              exact (g_call (vs := #[.slice a513 n514 c515, .int .i64 (r36[(Int.toNat v494)]!)]) CF43 (args2 (if_pos hc529) (if_pos hc529)) ((m_laws_has_fn (oS.vw hS517.g0) (r36[(Int.toNat v494)]!) (hk531 hcq14)).mono fun _ _ ⟨_, h1, h2, h3⟩ => ⟨by rw [h2, h1], h3⟩))
            have hB534 := hB518.trans (Ext.stp hE533 hS517.base)
            have hS535 := hS517.ext hE533
            refine wl_guard (c := (((decide ((r512.length : Int) = 0)) && r41) = false) ∧ r41 = true) (val := .bool (!r530)) (b := decide ((((decide ((r512.length : Int) = 0)) && r41) = false) ∧ r41 = true)) (gv_gd rfl rfl rfl) decide_eq_true_iff (fun hc536 => ?_) ?_
            · have hcq14 : (¬ ((((r512.length : Int) = 0) ∧ (r41 = true)))) ∧ (r41 = true) := ⟨(i_neg (i_and decide_eq_true_iff Iff.rfl) (hc536).1), Iff.rfl.mp (hc536).2⟩
              have hcq13 := (hcq14).1
              exact g_not (a := r530) (if_pos hc536)
            refine wl_guard (c := ((decide ((r512.length : Int) = 0)) && r41) = false) (val := .bool (r41 && (!r530))) (b := (((decide ((r512.length : Int) = 0)) && r41) == false)) (gv_some rfl rfl rfl) beq_iff_eq (fun hc537 => ?_) ?_
            · have hcq13 : ¬ ((((r512.length : Int) = 0) ∧ (r41 = true))) := (i_neg (i_and decide_eq_true_iff Iff.rfl) hc537)
              exact g_pick_and (b := r41) (q := (!r530)) (if_pos hc537) (gd_in hc537)
            refine wl_val (g_pick_or (b := ((decide ((r512.length : Int) = 0)) && r41)) (q := (r41 && (!r530))) rfl rfl) rfl ?_
            refine wl_nil ?_
            refine hK519 _ _ ?_
            refine w_condI (p := (((((r512.length : Int) = 0) ∧ (r41 = true))) ∨ (((r41 = true) ∧ (¬ (r530 = true)))))) (b := (((decide ((r512.length : Int) = 0)) && r41) || (r41 && (!r530)))) rfl (i_or (i_and decide_eq_true_iff Iff.rfl) (i_and Iff.rfl (i_not Iff.rfl))) (fun h538 => ?_) (fun h538 => ?_)
            · replace hm := hm.1 h538
              refine w_seq fun K539 hK539 => ?_
              refine w_region ?_
              refine wl_val (g_assign (v := .bool false) rfl) rfl ?_
              refine wl_nil ?_
              refine hK539 _ _ ?_
              refine w_ret ?_
              repeat first | with_reducible refine q_then ?_ | with_reducible refine q_block ?_
              exact ret1 rfl (by decide) ⟨_, hm, rfl, toExt hB534⟩
            · replace hm := hm.2 h538
              refine w_skip ?_
              refine hK506 _ _ ?_
              refine w_region ?_
              refine wl_val (g_move (v := .int .i64 v494) rfl) rfl ?_
              obtain ⟨hg540, hm⟩ := hm
              refine wl_val (g_add (a := v494) (b := 1) rfl rfl hg540) rfl ?_
              refine wl_val (g_assign (v := .int .i64 (v494 + 1)) rfl) rfl ?_
              refine wl_nil ?_
              have hS541 := hS535.tail
              exact ⟨((v494 + 1)), hm.2, ⟨rfl, rfl, rfl, rfl, rfl, trivial⟩, ⟨hm.1, hB534, hS541⟩⟩
          · replace hm := hm.2 h505
            refine w_exit ?_
            have hS542 := hS501.f2
            have hS543 := hS542.tail
            have hS544 := hS543.f2
            have hS545 := hS544.tail
            exact ⟨(), ⟨rfl, trivial⟩, ⟨hm, hB500, hS545⟩⟩
        · rintro _ b_ w546 ⟨hm, hB547, hS548⟩
          show Wp _ _ _ _ (upds b_ [(3, .slice a17 n18 c19)]) w546
          refine w_seq fun K549 hK549 => ?_
          refine w_region ?_
          refine wl_val (g_move (v := .slice a17 n18 c19) rfl) rfl ?_
          refine wl_step rfl (g_call (vs := #[.slice a17 n18 c19]) CF44 (args1 rfl) (m_impl_PlayersOk_fn (oT.vw hS548.g0 hS548.g1 he21) hm)) ?_
          rintro _ w550 ⟨r553, hm, rfl, hE551⟩
          have hB554 := hB547.trans (Ext.stp hE551 hS548.base)
          have hS555 := hS548.ext hE551
          refine wl_val (g_move (v := .bool r553) rfl) rfl ?_
          refine wl_guard (c := r553 = true) (val := .slice a17 n18 c19) (b := (r553 == true)) (gv_some rfl rfl rfl) beq_iff_eq (fun hc556 => ?_) ?_
          · have hcq15 : r553 = true := (Iff.rfl.mp hc556)
            exact g_move (v := .slice a17 n18 c19) rfl
          obtain ⟨r558, hk559, hm⟩ := hm
          refine wl_guardE (X := Ext) (c := r553 = true) (val := .bool r558) (Ext.refl _) (b := (r553 == true)) (gv_some rfl rfl rfl) beq_iff_eq (fun hc557 => ?_) (fun w560 hE561 => ?_)
          · have hcq15 : r553 = true := (Iff.rfl.mp hc557)
            exact (g_call (vs := #[.slice a17 n18 c19, .slice none 0 0, .slice none 0 0]) CF40 (args3 (if_pos hc557) rfl rfl) ((m_impl_IsCasting_fn (oT.vw hS555.g0 hS555.g1 he21) (Vw.emp (α := Int)) (Vw.emp (α := Int)) (hk559 hcq15)).mono fun _ _ ⟨_, h1, h2, h3⟩ => ⟨by rw [h2, h1], h3⟩))
          have hB562 := hB554.trans (Ext.stp hE561 hS555.base)
          have hS563 := hS555.ext hE561
          refine wl_val (g_pick_and (b := r553) (q := r558) rfl rfl) rfl ?_
          refine wl_val (g_assign (v := .bool (r553 && r558)) rfl) rfl ?_
          refine wl_nil ?_
          refine hK549 _ _ ?_
          refine w_ret ?_
          repeat first | with_reducible refine q_then ?_ | with_reducible refine q_block ?_
          exact ret1 rfl (by decide) ⟨_, hm, rfl, toExt hB562⟩

end Go.Proofs.Ytddjkiefadiijaa
